import Derived.Test.YtejdbdegdanecaaGreatSxWf
set_option linter.unusedVariables false
set_option linter.unusedSimpArgs false
namespace Go.Sx
open Go.RowKit
structure St where
 tmps:List SV
 heap:List HB
def St.ev (s:St):Operand->SV
 | .tmp t=>s.tmps.getD t .undef
 | .const v=>AeH v
 | .global _=> .any
 | .func f=> .fn f []
def putT (l:List SV) (d:Option Tmp) (x:SV):List SV:=match d with|some d=>l.set d x|none=>l
def St.put (s:St) (d:Option Tmp) (x:SV):St:=⟨putT s.tmps d x,s.heap⟩
inductive Gd where
 |run|skip|ask (t:Tmp) (b want:Bool)|bad
def guardOf (ops:List Oper) (s:St) (g:Option (Nat×Bool)):Gd:=
 match g with
 |none=> .run
 |some (j,want)=>
  match(ops[j]?).bind (·.dst)with
  |none=> .bad
  |some t=>match s.tmps[t]? with
   |some (.blit b)=>if b==want then .run else .skip
   |some .undef=> .skip
   |some (.bool b)=> .ask t b want
   |_=> .bad
def Cn (b:Bool) (X Y:Prop):Prop:=match b with|true=>X|false=>Y
theorem Cn_iff {b:Bool} {X Y:Prop}:Cn b X Y↔(b=true->X)/\(b=false->Y):=by cases b<;>simp[Cn]
def Cw (w b:Bool) (X Y:Prop):Prop:=match w with|true=>Cn b X Y|false=>Cn b Y X
theorem Cw_iff {w b:Bool} {X Y:Prop}:Cw w b X Y↔(b=w->X)/\(b= !w->Y):=by cases b<;>cases w<;>simp[Cw,Cn]
abbrev Inl:=FuncId->List SV->List HB->(SV->List HB->Prop)->Prop
def AfB (G:Nat->Option Ct) (o:Oper) (s:St):Option (FuncId×List SV):=
 match o.op with
 | .call c=>(match c.callee with
  | .value x=>(match s.ev x with
   | .fn f caps=>(match G f with
    |some _=>none
    |none=>some (f,c.args.toList.map s.ev++caps))
   |_=>none)
  |_=>none)
 |_=>none
def Aex (P:Program) (G:Nat->Option Ct) (wr:Bool) (inl:Inl) (o:Oper) (s:St) (K:St->Prop):Prop:=
 match AfB G o s with
 |some (f,args)=>inl f args s.heap λsv heap=>K (St.put ⟨s.tmps,heap⟩ o.dst sv)
 |none=>
  match sop P G wr o s.ev s.heap with
  | .ok none none sv heap _ _=>K (St.put ⟨s.tmps,heap⟩ o.dst sv)
  | .ok none (some chk) sv heap _ _=>chk/\K (St.put ⟨s.tmps,heap⟩ o.dst sv)
  | .ok (some hyp) none sv heap _ _=>hyp->K (St.put ⟨s.tmps,heap⟩ o.dst sv)
  | .ok (some hyp) (some chk) sv heap _ _=>chk/\(hyp->K (St.put ⟨s.tmps,heap⟩ o.dst sv))
  | .fail=>False
def AdQ (P:Program) (G:Nat->Option Ct) (wr:Bool) (inl:Inl) (all:List Oper):List Oper->St->(St->Prop)->Prop
 |[],s,K=>K s
 |o::r,s,K=>
  match guardOf all s o.guard with
  | .run=>Aex P G wr inl o s λs=>AdQ P G wr inl all r s K
  | .skip=>AdQ P G wr inl all r (s.put o.dst .undef) K
  | .ask t b want=>Cw want b (Aex P G wr inl o (s.put (some t) (.blit want)) λs=>AdQ P G wr inl all r s K)
   (AdQ P G wr inl all r ((s.put (some t) (.blit (!want))).put o.dst .undef) K)
  | .bad=>False
def svLe:SV->SV->Prop
 |x,.any=>True
 |x,.int k n=>(match x with| .int j m=>j=k/\m=n| .lit j m=>j=k/\m=n|_=>False)
 |x,.lit k n=>(match x with| .lit j m=>j=k/\m=n|_=>False)
 |x,.bool b=>(match x with| .bool c=>c=b| .blit c=>c=b|_=>False)
 |x,.blit b=>(match x with| .blit c=>c=b|_=>False)
 |x,.str s=>(match x with| .str t=>t=s|_=>False)
 |x,.sl e xs=>(match x with| .sl f ys=>f=e/\ys=xs| .slc f ys=>f=e/\ys=xs| .nils=>xs=[]| .emp=>xs=[]| .slit n sz cs=>sz=e.length/\toRows (toCs e) n cs=some xs|_=>False)
 |x,.nils=>(match x with| .nils=>True|_=>False)
 |x,.nilp=>(match x with| .nilp=>True|_=>False)
 |x,.ref k o=>(match x with| .ref j p=>j=k/\p=o|_=>False)
 |x,.own k c=>(match x with| .own j d=>j=k/\d=c|_=>False)
 |x,.emp=>(match x with| .emp=>True| .nils=>True|_=>False)
 |x,.undef=>(match x with| .undef=>True|_=>False)
 |x,.agg cs=>(match x with| .agg ds=>go ds cs|_=>False)
 |x,.fn f cs=>(match x with| .fn g ds=>g=f/\go ds cs|_=>False)
 |x,.slit n sz cs=>(match x with| .slit m sy ds=>m=n/\sy=sz/\go ds cs|_=>False)
 |x,.cref cs=>(match x with| .cref ds=>go ds cs|_=>False)
 |x,.rref k c sz i off=>(match x with| .rref j d sy l o=>j=k/\d=c/\sy=sz/\l=i/\o=off|_=>False)
 |x,.ownv k c sz lo n=>(match x with| .ownv j d sy l m=>j=k/\d=c/\sy=sz/\l=lo/\m=n|_=>False)
 |_,_=>False
where go:List SV->List SV->Prop
 |[],[]=>True
 |x::xs,y::ys=>svLe x y/\go xs ys
 |_,_=>False
abbrev svLes:=svLe.go
def hbLe:HB->HB->Prop
 | .box cs t,.box ds u=>svLes cs ds/\t=u
 | .row e t c xs,.row f u d ys=>e=f/\t=u/\c=d/\xs=ys
 | .froz e c xs,.froz f d ys=>e=f/\c=d/\xs=ys
 | .mp k g e c xs,.mp j h f d ys=>k=j/\g=h/\e=f/\c=d/\xs=ys
 | .hrow t c n i x f,.hrow u d m j y g=>t=u/\c=d/\n=m/\i=j/\x=y/\f=g
 |_,_=>False
def svQ:SV->SV->Option (List Prop)
 |_,.any=>some []
 |x,.int k n=>(match x with| .int j m=>if j=k then some [m=n]else none| .lit j m=>if j=k then some [m=n]else none|_=>none)
 |x,.lit k n=>(match x with| .lit j m=>if j=k then some [m=n]else none|_=>none)
 |x,.bool b=>(match x with| .bool c=>some [c=b]| .blit c=>some [c=b]|_=>none)
 |x,.blit b=>(match x with| .blit c=>if c=b then some []else none|_=>none)
 |x,.str s=>(match x with| .str t=>some [t=s]|_=>none)
 |x,.sl e xs=>(match x with| .sl f ys=>if shEqs f e then some [ys=xs]else none| .slc f ys=>if shEqs f e then some [ys=xs]else none| .nils=>some [xs=[]]| .emp=>some [xs=[]]| .slit n sz cs=>if sz=e.length then(match toRows (toCs e) n cs with|some r=>some [r=xs]|none=>none)else none|_=>none)
 |x,.nils=>(match x with| .nils=>some []|_=>none)
 |x,.nilp=>(match x with| .nilp=>some []|_=>none)
 |x,.ref k o=>(match x with| .ref j p=>if j=k/\p=o then some []else none|_=>none)
 |x,.own k c=>(match x with| .own j d=>if j=k/\d=c then some []else none|_=>none)
 |x,.emp=>(match x with| .emp=>some []| .nils=>some []|_=>none)
 |x,.undef=>(match x with| .undef=>some []|_=>none)
 |x,.agg cs=>(match x with| .agg ds=>(match datS cs with|some (e,ys)=>(match toCs e ds with|some (xs,[])=>some [xs=ys]|_=>none)|none=>go ds cs)|_=>none)
 |x,.fn f cs=>(match x with| .fn g ds=>if g=f then go ds cs else none|_=>none)
 |x,.slit n sz cs=>(match x with| .slit m sy ds=>if m=n/\sy=sz then go ds cs else none|_=>none)
 |x,.cref cs=>(match x with| .cref ds=>go ds cs|_=>none)
 |x,.rref k c sz i off=>(match x with| .rref j d sy l o=>if j=k/\d=c/\sy=sz/\o=off then some [l=i]else none|_=>none)
 |x,.ownv k c sz lo n=>(match x with| .ownv j d sy l m=>if j=k/\d=c/\sy=sz then some [l=lo,m=n]else none|_=>none)
 |_,_=>none
where go:List SV->List SV->Option (List Prop)
 |[],[]=>some []
 |x::xs,y::ys=>(match svQ x y,go xs ys with|some a,some b=>some (a++b)|_,_=>none)
 |_,_=>none
def hbQ:HB->HB->Option (List Prop)
 | .box cs t,.box ds u=>if t=u then(if 4<ds.length then svQ (.agg cs) (.agg ds)else svQ.go cs ds)else none
 | .row e t c xs,.row f u d ys=>if shEqs e f/\t=u/\c=d then some [xs=ys]else none
 | .froz e c xs,.froz f d ys=>if shEqs e f/\c=d then some [xs=ys]else none
 | .mp k g e c xs,.mp j h f d ys=>if k=j/\g=h/\shEqs e f/\c=d then some [xs=ys]else none
 | .hrow t c n i x f,.hrow u d m j y g=>some [t=u/\c=d/\n=m/\i=j/\x=y/\f=g]
 |_,_=>none
def qT (l:List SV):List (Nat×SV)->Option (List Prop)
 |[]=>some []
 |(i,y)::r=>(match svQ (l.getD i .undef) y,qT l r with|some a,some b=>some (a++b)|_,_=>none)
def qH (l:List HB):List (Nat×HB)->Option (List Prop)
 |[]=>some []
 |(i,y)::r=>(match hbQ (l.getD i .gone) y,qH l r with|some a,some b=>some (a++b)|_,_=>none)
def leA (c:Bool) (l:List SV) (ts:List (Nat×SV)) (h:List HB) (hs:List (Nat×HB)) (p:Prop) (ps:List Prop):Prop:=
 match c,qT l ts,qH h hs with
 |true,some a,some b=>an1 p (a++(b++ps))
 |_,_,_=>False
def ck (b:Bool) (p:Prop):Prop:=match b with|true=>p|false=>False
def Aem (ts:List Nat):Nat->List SV->List SV
 |_,[]=>[]
 |i,x::r=>(if ts.contains i then .any else x)::Aem ts (i+1) r
def Ah4:List SV->List (Nat×SV)->List SV
 |l,[]=>l
 |l,(i,y)::r=>Ah4 (l.set i y) r
def AdZ (ks:List Nat):Nat->List HB->List HB
 |_,[]=>[]
 |i,x::r=>(if ks.contains i then .gone else x)::AdZ ks (i+1) r
def Ah5:List HB->List (Nat×HB)->List HB
 |l,[]=>l
 |l,(i,y)::r=>Ah5 (l.set i y) r
def leT (l:List SV):List (Nat×SV)->Prop
 |[]=>True
 |(i,y)::r=>svLe (l.getD i .undef) y/\leT l r
def leH (l:List HB):List (Nat×HB)->Prop
 |[]=>True
 |(i,y)::r=>hbLe (l.getD i .gone) y/\leH l r
mutual
def below (n:Nat):SV->Bool
 | .ref k _=>k<n
 | .own k _=>k<n
 | .ownl k _ _=>k<n
 | .rref k _ _ _ _=>k<n
 | .ownv k _ _ _ _=>k<n
 | .agg cs=>Acs n cs
 | .tup cs=>Acs n cs
 | .slit _ _ cs=>Acs n cs
 | .cref cs=>Acs n cs
 | .fn _ cs=>Acs n cs
 |_=>true
def Acs (n:Nat):List SV->Bool
 |[]=>true
 |c::cs=>below n c&&Acs n cs
end
def Af3 (n:Nat):HB->Bool
 | .box cs _=>Acs n cs
 | .hrow _ _ _ _ x _=>below n x
 |_=>true
structure StRep (V:Vw) (a:Act) (s:St):Prop where
 tm:VRs V s.tmps a.tmps.toList
 hp:Heap V (λk=>s.heap[k]?)
 lt:∀k,V.D k->k<s.heap.length
 df:a.defers=[]
structure StWf (s:St):Prop where
 tm:Wfs s.tmps
 hp:WfH s.heap
def Gro (V V':Vw):Prop:=∃W,Grow V V' W
theorem Gro.refl (V:Vw):Gro V V:=⟨[],Grow.refl V []⟩
theorem Gro.trans {V V' V'':Vw} (h:Gro V V') (h':Gro V' V''):Gro V V'':=by
 obtain⟨W,h⟩:=h;obtain⟨W',h'⟩:=h';exact⟨W++W',(h.mono λk hk=>by simp[hk]).trans h' λk hk _=>by simp[hk]⟩
def Post (V0:Vw) (Q:Exit->St->Prop) (e:Exit) (a':Act) (w':World):Prop:=∃V' s',w'=V'.w/\Gro V0 V'/\StRep V' a' s'/\StWf s'/\Q e s'
structure Hand where
 F:Program->Code->St->(Exit->St->Prop)->Prop
 snd:∀ {P:Program} {c:Code} {s:St} {Q:Exit->St->Prop},F P c s Q->∀ {V0 V:Vw} {a:Act},Gro V0 V->StRep V a s->StWf s->(Code.loop c).wp P (Post V0 Q) a V.w
 pure:∀ {P:Program} {c:Code} {s:St} {Q:Exit->St->Prop},F P c s Q->StWf s->∃e s',Q e s'/\StWf s'
inductive LoopAnn where
 |unroll (n:Nat)
 |cut (X:Type) (pre:X->Prop) (mk:X->List (Nat×SV)) (hp:X->List (Nat×HB)) (ks kp:List Nat)
 |inv (X:Type) (pre:X->Prop) (mk:X->List (Nat×SV)) (hp:X->List (Nat×HB)) (ks kp:List Nat) (mu:X->Nat)
 |on (g:St->LoopAnn)
 |ghost (t:Nat) (e:List Sh) (ty:TypeId) (r:LoopAnn)
 |settle (r:LoopAnn)
 |settleN (n:Nat) (r:LoopAnn)
 |mark (t:Nat) (r:LoopAnn)
 |ghostB (t i:Nat) (e:List Sh) (ty:TypeId) (r:LoopAnn)
 |hand (h:Hand)
def Ad0 (t:Nat) (e:List Sh) (ty:TypeId) (s:St):St:=
 match s.tmps.getD t .undef with
 | .nils=>⟨s.tmps.set t (.own s.heap.length 0),s.heap++[.row e ty 0 []]⟩
 | .emp=>⟨s.tmps.set t (.own s.heap.length 0),s.heap++[.row e ty 0 []]⟩
 |_=>s
def Ade (t i:Nat) (e:List Sh) (ty:TypeId) (s:St):St:=
 match s.tmps.getD t .undef with
 | .ref k _=>
  (match s.heap[k]? with
  |some (.box cells bt)=>
   (match cells.getD i .undef with
   | .nils=>⟨s.tmps,(s.heap.set k (.box (cells.set i (.own s.heap.length 0)) bt))++[.row e ty 0 []]⟩
   |_=>s)
  |_=>s)
 |_=>s
def th1 (n:Nat) (heap:List HB) (x:SV):SV:=match x with| .own k c=>if n<=k then thaw1 heap (.own k c)else .own k c|x=>x
def th (n:Nat) (heap:List HB) (x:SV):SV:=match x with| .agg cs=> .agg (cs.map (th1 n heap))|x=>th1 n heap x
def hbTh (n:Nat) (heap:List HB) (h:HB):HB:=match h with| .box cells t=> .box (cells.map (th1 n heap)) t|h=>h
def settle (n:Nat) (s:St):St:=⟨s.tmps.map (th n s.heap),(frzH s.heap (List.range' n (s.heap.length-n))).map (hbTh n s.heap)⟩
def Agy (t:Nat) (s:St):St:=
 match s.tmps.getD t .undef with
 | .own k c=>(match s.heap[k]? with
  |some (.row _ _ d xs)=>if c=d then⟨s.tmps.set t (.ownl k c xs),s.heap⟩else s
  |_=>s)
 |_=>s
def LoopAnn.res:LoopAnn->St->LoopAnn×St
 | .on g,s=>(g s).res s
 | .ghost t e ty r,s=>r.res (Ad0 t e ty s)
 | .settle r,s=>r.res (Go.Sx.settle 0 s)
 | .settleN n r,s=>r.res (Go.Sx.settle n s)
 | .mark t r,s=>r.res (Agy t s)
 | .ghostB t i e ty r,s=>r.res (Ade t i e ty s)
 | .unroll n,s=>(.unroll n,s)
 | .hand h,s=>(.hand h,s)
 | .cut X pre mk hp ks kp,s=>(.cut X pre mk hp ks kp,s)
 | .inv X pre mk hp ks kp mu,s=>(.inv X pre mk hp ks kp mu,s)
def wrOf:Code->List Tmp
 | .region _ ops _=>ops.toList.filterMap (·.dst)
 | .seq a b=>wrOf a++wrOf b
 | .cond _ a b=>wrOf a++wrOf b
 | .block _ c=>wrOf c
 | .loop c=>wrOf c
 | .scope c=>wrOf c
 |_=>[]
def nameOf:Code->Option Nat
 | .region i _ _=>some i
 | .seq a b=>(nameOf a).or (nameOf b)
 | .cond _ a b=>(nameOf a).or (nameOf b)
 | .block _ c=>nameOf c
 | .loop c=>nameOf c
 | .scope c=>nameOf c
 |_=>none
def AdR (body:St->(Exit->St->Prop)->Prop):Nat->St->(Exit->St->Prop)->Prop
 |0,_,_=>False
 |n+1,s,Q=>body s λe s'=>match e with
  | .normal=>AdR body n s' Q
  |e=>Q e s'
def WfHs:List (Nat×HB)->Prop
 |[]=>True
 |(_,y)::r=>WfHB y/\WfHs r
def WfTs:List (Nat×SV)->Prop
 |[]=>True
 |(_,y)::r=>Wf y/\WfTs r
def fV0 (x:SV) (k:SV->Prop):Prop:=
 match x with
 | .any=>k .any
 | .undef=>k .undef
 | .int a n=>k (.int a n)
 | .lit a n=>k (.lit a n)
 | .bool b=>k (.bool b)
 | .blit b=>k (.blit b)
 | .str s=>k (.str s)
 | .agg cs=>k (.agg cs)
 | .tup cs=>k (.tup cs)
 | .sl e xs=>k (.sl e xs)
 | .slc e xs=>k (.slc e xs)
 | .nils=>k .nils
 | .slit n sz cs=>k (.slit n sz cs)
 | .ref a o=>k (.ref a o)
 | .cref cs=>k (.cref cs)
 | .nilp=>k .nilp
 | .own a c=>k (.own a c)
 | .ownl a c xs=>k (.ownl a c xs)
 | .rref a c s i o=>k (.rref a c s i o)
 | .ownv a c s i o=>k (.ownv a c s i o)
 | .emp=>k .emp
 | .nilq xs=>k (.nilq xs)
 | .fn f cs=>k (.fn f cs)
def fL0:List SV->(List SV->Prop)->Prop
 |[],k=>k []
 |x::r,k=>fV0 x λx=>fL0 r λr=>k (x::r)
def fV1 (x:SV) (k:SV->Prop):Prop:=
 match x with
 | .agg cs=>fL0 cs λcs=>k (.agg cs)
 | .tup cs=>fL0 cs λcs=>k (.tup cs)
 | .slit n sz cs=>fL0 cs λcs=>k (.slit n sz cs)
 | .cref cs=>fL0 cs λcs=>k (.cref cs)
 | .fn f cs=>fL0 cs λcs=>k (.fn f cs)
 |x=>fV0 x k
def fL1:List SV->(List SV->Prop)->Prop
 |[],k=>k []
 |x::r,k=>fV1 x λx=>fL1 r λr=>k (x::r)
def fHB (h:HB) (k:HB->Prop):Prop:=
 match h with
 | .box cells t=>fL1 cells λcells=>k (.box cells t)
 | .row e t c xs=>k (.row e t c xs)
 | .froz e c xs=>k (.froz e c xs)
 | .mp kt g e c xs=>k (.mp kt g e c xs)
 | .hrow t c n i x f=>fV0 x λx=>k (.hrow t c n i x f)
 | .gone=>k .gone
def fHs:List HB->(List HB->Prop)->Prop
 |[],k=>k []
 |x::r,k=>fHB x λx=>fHs r λr=>k (x::r)
def St.force (s:St) (K:St->Prop):Prop:=fL1 s.tmps λl=>fHs s.heap λh=>K ⟨l,h⟩
theorem fV0_eq (x:SV) (k:SV->Prop):fV0 x k=k x:=by cases x<;>rfl
theorem fL0_eq:∀(l:List SV) (k:List SV->Prop),fL0 l k=k l
 |[],k=>rfl
 |x::r,k=>by simp only[fL0,fV0_eq,fL0_eq r]
theorem Aln (x:SV) (k:SV->Prop):fV1 x k=k x:=by cases x<;>simp only[fV1,fL0_eq,fV0_eq]
theorem fL1_eq:∀(l:List SV) (k:List SV->Prop),fL1 l k=k l
 |[],k=>rfl
 |x::r,k=>by simp only[fL1,Aln,fL1_eq r]
theorem Alp (x:HB) (k:HB->Prop):fHB x k=k x:=by cases x<;>simp only[fHB,fL1_eq,fV0_eq]
theorem Ako:∀(l:List HB) (k:List HB->Prop),fHs l k=k l
 |[],k=>rfl
 |x::r,k=>by simp only[fHs,Alp,Ako r]
theorem St.force_eq (s:St) (K:St->Prop):s.force K=K s:=by simp only[St.force,fL1_eq,Ako]
mutual
def mapO (f:Nat->Nat->SV) (ks:List Nat):SV->SV
 | .own k c=>if ks.contains k then f k c else .own k c
 | .ownl k c xs=>if ks.contains k then .any else .ownl k c xs
 | .rref k c sz i off=>if ks.contains k then .any else .rref k c sz i off
 | .ownv k c sz lo n=>if ks.contains k then(match f k c with| .own j d=> .ownv j d sz lo n|_=> .any)else .ownv k c sz lo n
 | .agg cs=> .agg (Acg f ks cs)
 | .tup cs=> .tup (Acg f ks cs)
 | .slit n sz cs=> .slit n sz (Acg f ks cs)
 | .cref cs=> .cref (Acg f ks cs)
 | .fn g cs=> .fn g (Acg f ks cs)
 |x=>x
def Acg (f:Nat->Nat->SV) (ks:List Nat):List SV->List SV
 |[]=>[]
 |c::cs=>mapO f ks c::Acg f ks cs
end
def curV (heap:List HB) (k:Nat):Nat:=match curOf heap k with|some (_,c,_)=>c|none=>0
def AjS (heap:List HB) (ks:List Nat):List Nat:=ks.filter λk=>(curOf heap k).isSome
def rvKs (heap:List HB) (ks kp:List Nat):List Nat:=AjS heap (ks.filter λk=> !kp.contains (1000000+k))
def hbMap (f:Nat->Nat->SV) (ks:List Nat) (nv:Nat->Nat) (k:Nat):HB->HB
 | .box cells t=> .box (Acg f ks cells) t
 | .row e t c xs=>if ks.contains k then .row e t (nv k) xs else .row e t c xs
 | .froz e c xs=>if ks.contains k then .froz e (nv k) xs else .froz e c xs
 | .mp kt g e c xs=>if ks.contains k then .mp kt g e (nv k) xs else .mp kt g e c xs
 | .hrow t c n i x fr=>if ks.contains k then .hrow t (nv k) n i (mapO f ks x) fr else .hrow t c n i (mapO f ks x) fr
 | .gone=> .gone
def AfV (f:Nat->Nat->SV) (ks:List Nat) (nv:Nat->Nat):Nat->List HB->List HB
 |_,[]=>[]
 |i,h::r=>hbMap f ks nv i h::AfV f ks nv (i+1) r
def AfU (f:Nat->Nat->SV) (ks:List Nat):List (Nat×SV)->List (Nat×SV)
 |[]=>[]
 |(i,y)::r=>(i,mapO f ks y)::AfU f ks r
def mapH1 (f:Nat->Nat->SV) (ks:List Nat) (nv:Nat->Nat):List (Nat×HB)->List (Nat×HB)
 |[]=>[]
 |(i,y)::r=>(i,hbMap f ks nv i y)::mapH1 f ks nv r
def AfA:List (Nat×HB)->List Nat
 |[]=>[]
 |(i,_)::r=>i::AfA r
theorem keysOf_eq:∀(l:List (Nat×HB)),AfA l=l.map (·.1)
 |[]=>rfl
 |(i,_)::r=>by simp only[AfA,AmQ,keysOf_eq r]
def natsEq:List Nat->List Nat->Bool
 |[],l=>l.isEmpty
 |i::r,l=>match l with|j::s=>Nat.beq i j&&natsEq r s|[]=>false
theorem natsEq_eq:∀ {a b:List Nat},natsEq a b=true->a=b
 |[],b,h=>by cases b<;>simp[natsEq]at h; rfl
 |i::r,b,h=>by
  cases b with
  |nil=>simp[natsEq]at h
  |cons j s=>
   simp only[natsEq,AlG]at h
   rw[AmV h.1,natsEq_eq h.2]
def remap (f:Nat->Nat->SV) (ks:List Nat) (nv:Nat->Nat) (s:St):St:=⟨Acg f ks s.tmps,AfV f ks nv 0 s.heap⟩
abbrev fDrop (_ _:Nat):SV:= .any
abbrev fVer (nv:Nat->Nat) (k _:Nat):SV:= .own k (nv k)
abbrev fTo (nv:Nat->Nat) (heap:List HB) (k c:Nat):SV:=if(match curOf heap k with|some (_,d,_)=>decide (c=d)|none=>false)then .own k (nv k)else .any
def headOf (ws:List Nat) (rk:List Nat) (nv:Nat->Nat) (s:St) (ts:List (Nat×SV)) (hs:List (Nat×HB)):St:=
 ⟨Ah4 (Aem ws 0 (remap fDrop rk nv s).tmps) (AfU (fVer nv) rk ts),Ah5 (remap fDrop rk nv s).heap (mapH1 (fVer nv) rk nv hs)⟩
def keepOf (ws kp:List Nat):List Nat:=kp.filter λi=> !ws.contains i
def dropOf (keep:List Nat):Nat->List SV->List Nat
 |_,[]=>[]
 |i,_::r=>if keep.contains i then dropOf keep (i+1) r else i::dropOf keep (i+1) r
def Ad8 (l:List SV):List Nat->List SV
 |[]=>[]
 |i::r=>l.getD i .undef::Ad8 l r
def sameLen:List SV->List SV->Bool
 |[],l=>l.isEmpty
 |_::r,l=>match l with|_::s=>sameLen r s|[]=>false
def Aki (keep:List Nat) (l l':List SV):Prop:=sameLen l l'=true/\Ad8 l keep=Ad8 l' keep
theorem Ad1 (keep:List Nat):∀(l:List SV) (i j:Nat),j∈dropOf keep i l↔i<=j/\j<i+l.length/\j∉keep
 |[],i,j=>by simp[dropOf]; omega
 |x::r,i,j=>by
  simp only[dropOf];split
  · rename_i h;rw[Ad1 keep r (i+1) j];simp only[Al9];constructor
    · rintro⟨h1,h2,h3⟩; exact⟨by omega,by omega,h3⟩
    · rintro⟨h1,h2,h3⟩;have:j≠i:=λe=>by subst e; exact h3 (by simpa using h)
      exact⟨by omega,by omega,h3⟩
  · rename_i h;simp only[Amd,Al9];rw[Ad1 keep r (i+1) j];constructor
    · rintro(rfl|⟨h1,h2,h3⟩)
      · exact⟨by omega,by omega,by simpa using h⟩
      · exact⟨by omega,by omega,h3⟩
    · rintro⟨h1,h2,h3⟩;by_cases e:j=i
      · exact .inl e
      · exact .inr ⟨by omega,by omega,h3⟩
theorem Ae6:∀ {a b:List SV},sameLen a b=true->a.length=b.length
 |[],b,h=>by cases b<;>simp[sameLen]at h; rfl
 |_::r,b,h=>by
  cases b with
  |nil=>simp[sameLen]at h
  |cons y s=>simp only[sameLen]at h; simp[Ae6 h]
theorem Af8 {l l':List SV}:∀ {ks:List Nat},Ad8 l ks=Ad8 l' ks->∀i∈ks,l.getD i .undef=l'.getD i .undef
 |[],_,i,hi=>by simp at hi
 |k::r,h,i,hi=>by
  simp only[Ad8,List.cons.injEq]at h;rcases Amd.1 hi with rfl|hi
  · exact h.1
  · exact Af8 h.2 i hi
def sameV:SV->SV->Prop->Prop
 | .any,y,p=>(match y with| .any=>p|_=>False)
 | .undef,y,p=>(match y with| .undef=>p|_=>False)
 | .int k n,y,p=>(match y with| .int j m=>if k=j then n=m/\p else False|_=>False)
 | .lit k n,y,p=>(match y with| .lit j m=>if k=j/\n=m then p else False|_=>False)
 | .bool b,y,p=>(match y with| .bool c=>b=c/\p|_=>False)
 | .blit b,y,p=>(match y with| .blit c=>if b=c then p else False|_=>False)
 | .str b,y,p=>(match y with| .str c=>b=c/\p|_=>False)
 | .agg cs,y,p=>(match y with| .agg ds=>(match datS cs,datS ds with|some (e,xs),some (f,ys)=>if shEqs e f then xs=ys/\p else False|_,_=>go cs ds p)|_=>False)
 | .tup cs,y,p=>(match y with| .tup ds=>go cs ds p|_=>False)
 | .sl e xs,y,p=>(match y with| .sl f ys=>if shEqs e f then xs=ys/\p else False|_=>False)
 | .slc e xs,y,p=>(match y with| .slc f ys=>if shEqs e f then xs=ys/\p else False|_=>False)
 | .nils,y,p=>(match y with| .nils=>p|_=>False)
 | .slit n sz cs,y,p=>(match y with| .slit m sy ds=>if n=m/\sz=sy then go cs ds p else False|_=>False)
 | .ref k o,y,p=>(match y with| .ref j q=>if k=j/\o=q then p else False|_=>False)
 | .cref cs,y,p=>(match y with| .cref ds=>go cs ds p|_=>False)
 | .nilp,y,p=>(match y with| .nilp=>p|_=>False)
 | .own k c,y,p=>(match y with| .own j d=>if k=j/\c=d then p else False|_=>False)
 | .emp,y,p=>(match y with| .emp=>p|_=>False)
 | .fn f cs,y,p=>(match y with| .fn g ds=>if f=g then go cs ds p else False|_=>False)
 |x,y,p=>x=y/\p
where go:List SV->List SV->Prop->Prop
 |[],[],p=>p
 |x::xs,y::ys,p=>sameV x y (go xs ys p)
 |_,_,_=>False
abbrev Alz:=sameV.go
theorem Ale {s:Sh} {c:SV} {x:C} (h:toC s c=some x):svLe c (ofC s x):=by
 cases s with
 |int k=>
  cases c<;>simp only[toC,toC1]at h<;>first|(cases h; done)|skip
  all_goals
   split at h
   · rename_i e; injection h with h; subst h; exact⟨e.symm,rfl⟩
   · cases h
 |bool=>cases c<;>simp only[toC,toC1]at h<;>first|(cases h; done)|(injection h with h; subst h; simp only[ofC,svLe,C.bool])
 |str=>cases c<;>simp only[toC,toC1]at h<;>first|(cases h; done)|(injection h with h; subst h; simp only[ofC,svLe,C.str])
 |sl e=>
  cases c<;>simp only[toC]at h<;>first|(cases h; done)|skip
  · split at h
    · rename_i he; injection h with h; subst h; exact⟨(shEqs_eq _ _ he).symm,rfl⟩
    · cases h
  · split at h
    · rename_i he; injection h with h; subst h; exact⟨(shEqs_eq _ _ he).symm,rfl⟩
    · cases h
  · injection h with h; subst h; simp only[ofC,svLe,C.list]
  · split at h
    · rename_i he
      rw[Option.map_eq_some_iff]at h
      obtain⟨r,hr,rfl⟩:=h
      exact⟨he,hr⟩
    · cases h
  · injection h with h; subst h; simp only[ofC,svLe,C.list]
theorem Aio:∀ {e:List Sh} {cs:List SV} {xs:List C},toCs e cs=some (xs,[])->svLes cs (ofCs e xs)
 |[],cs,xs,h=>by simp only[toCs]at h; injection h with h; injection h with h1 h2; subst h1; subst h2; simp only[ofCs,svLes,svLe.go]
 |s::r,cs,xs,h=>by
  cases cs with
  |nil=>simp[toCs]at h
  |cons c cs=>
   simp only[toCs]at h
   split at h
   · rename_i x ys rest h1 h2
     injection h with h; injection h with h3 h4; subst h3; subst h4
     simp only[ofCs,svLes,svLe.go,Al4,AmD]
     exact⟨Ale h1,Aio h2⟩
   · cases h
mutual
theorem sameV_of:∀ {x y:SV} {p:Prop},sameV x y p->x=y/\p
 | .any,y,p,h=>by cases y<;>simp only[sameV]at h<;>exact⟨rfl,h⟩
 | .undef,y,p,h=>by cases y<;>simp only[sameV]at h<;>exact⟨rfl,h⟩
 | .nils,y,p,h=>by cases y<;>simp only[sameV]at h<;>exact⟨rfl,h⟩
 | .nilp,y,p,h=>by cases y<;>simp only[sameV]at h<;>exact⟨rfl,h⟩
 | .emp,y,p,h=>by cases y<;>simp only[sameV]at h<;>exact⟨rfl,h⟩
 | .int k n,y,p,h=>by
  cases y<;>simp only[sameV]at h<;>first|exact h.elim|(split at h<;>first|exact h.elim|(rename_i e; exact⟨by rw[e,h.1],h.2⟩))
 | .lit k n,y,p,h=>by
  cases y<;>simp only[sameV]at h<;>first|exact h.elim|(split at h<;>first|exact h.elim|(rename_i e; exact⟨by rw[e.1,e.2],h⟩))
 | .bool b,y,p,h=>by cases y<;>simp only[sameV]at h<;>exact⟨by rw[h.1],h.2⟩
 | .blit b,y,p,h=>by
  cases y<;>simp only[sameV]at h<;>first|exact h.elim|(split at h<;>first|exact h.elim|(rename_i e; exact⟨by rw[e],h⟩))
 | .str b,y,p,h=>by cases y<;>simp only[sameV]at h<;>exact⟨by rw[h.1],h.2⟩
 | .agg cs,y,p,h=>by
  cases y<;>simp only[sameV]at h<;>first|exact h.elim|skip
  split at h
  · rename_i e xs f ys h1 h2;split at h
    · rename_i he; exact⟨by rw[datS_of h1,datS_of h2,shEqs_eq _ _ he,h.1],h.2⟩
    · exact h.elim
  · exact⟨by rw[(sames_of h).1],(sames_of h).2⟩
 | .tup cs,y,p,h=>by
  cases y<;>simp only[sameV]at h<;>first|exact h.elim|exact⟨by rw[(sames_of h).1],(sames_of h).2⟩
 | .cref cs,y,p,h=>by
  cases y<;>simp only[sameV]at h<;>first|exact h.elim|exact⟨by rw[(sames_of h).1],(sames_of h).2⟩
 | .sl e xs,y,p,h=>by
  cases y<;>simp only[sameV]at h<;>first|exact h.elim|(split at h<;>first|exact h.elim|(rename_i e; exact⟨by rw[shEqs_eq _ _ e,h.1],h.2⟩))
 | .slc e xs,y,p,h=>by
  cases y<;>simp only[sameV]at h<;>first|exact h.elim|(split at h<;>first|exact h.elim|(rename_i e; exact⟨by rw[shEqs_eq _ _ e,h.1],h.2⟩))
 | .slit n sz cs,y,p,h=>by
  cases y<;>simp only[sameV]at h<;>first|exact h.elim|(split at h<;>first|exact h.elim|(rename_i e; exact⟨by rw[e.1,e.2,(sames_of h).1],(sames_of h).2⟩))
 | .ref k o,y,p,h=>by
  cases y<;>simp only[sameV]at h<;>first|exact h.elim|(split at h<;>first|exact h.elim|(rename_i e; exact⟨by rw[e.1,e.2],h⟩))
 | .own k o,y,p,h=>by
  cases y<;>simp only[sameV]at h<;>first|exact h.elim|(split at h<;>first|exact h.elim|(rename_i e; exact⟨by rw[e.1,e.2],h⟩))
 | .fn f cs,y,p,h=>by
  cases y<;>simp only[sameV]at h<;>first|exact h.elim|(split at h<;>first|exact h.elim|(rename_i e; exact⟨by rw[e,(sames_of h).1],(sames_of h).2⟩))
 | .ownl _ _ _,y,p,h=>by simp only[sameV]at h; exact h
 | .rref _ _ _ _ _,y,p,h=>by simp only[sameV]at h; exact h
 | .ownv _ _ _ _ _,y,p,h=>by simp only[sameV]at h; exact h
 | .nilq _,y,p,h=>by simp only[sameV]at h; exact h
theorem sames_of:∀ {a b:List SV} {p:Prop},sameV.go a b p->a=b/\p
 |[],[],_,h=>⟨rfl,h⟩
 |[],_::_,_,h=>h.elim
 |_::_,[],_,h=>h.elim
 |x::a,y::b,p,h=>by
  simp only[sameV.go]at h;obtain⟨h1,h2⟩:=sameV_of h;obtain⟨h3,h4⟩:=sames_of h2;exact⟨by rw[h1,h3],h4⟩
end
def Akw:HB->HB->Prop->Prop
 | .box cs t,.box ds u,p=>if t=u then sameV (.agg cs) (.agg ds) p else False
 | .row e t c xs,.row f u d ys,p=>if shEqs e f/\t=u/\c=d then xs=ys/\p else False
 | .froz e c xs,.froz f d ys,p=>if shEqs e f/\c=d then xs=ys/\p else False
 | .gone,.gone,p=>p
 |x,y,p=>x=y/\p
theorem sameB_of {x y:HB} {p:Prop} (h:Akw x y p):x=y/\p:=by
 unfold Akw at h;split at h
 · split at h
   · rename_i e;obtain⟨h1,h2⟩:=sameV_of h;injection h1 with h1;exact⟨by rw[e,h1],h2⟩
   · exact h.elim
 · split at h
   · rename_i e; exact⟨by rw[shEqs_eq _ _ e.1,e.2.1,e.2.2,h.1],h.2⟩
   · exact h.elim
 · split at h
   · rename_i e; exact⟨by rw[shEqs_eq _ _ e.1,e.2,h.1],h.2⟩
   · exact h.elim
 · exact⟨rfl,h⟩
 · exact h
def Ahu:List HB->List HB->Prop->Prop
 |[],[],p=>p
 |x::xs,y::ys,p=>Akw x y (Ahu xs ys p)
 |_,_,_=>False
abbrev nLt (a b:Nat):Prop:=a<b
def Adr (ks kp:List Nat) (s0 s:St) (ts:List (Nat×SV)) (hs:List (Nat×HB)) (p:Prop) (ps:List Prop):Prop:=
 leA (natsEq (AfA hs) ks) (remap (fTo (λk=>curV s0.heap k+1) s.heap) (rvKs s0.heap ks kp) (λk=>curV s0.heap k+1) s).tmps (AfU (fVer (λk=>curV s0.heap k+1)) (rvKs s0.heap ks kp) ts)
  (remap (fTo (λk=>curV s0.heap k+1) s.heap) (rvKs s0.heap ks kp) (λk=>curV s0.heap k+1) s).heap (mapH1 (fVer (λk=>curV s0.heap k+1)) (rvKs s0.heap ks kp) (λk=>curV s0.heap k+1) hs) p ps
def Aeg (ws ks kp:List Nat) (s0 s:St) (p:Prop):Prop:=
 ck (sameLen (remap fDrop (rvKs s0.heap ks kp) (λk=>curV s0.heap k+1) s).tmps (remap fDrop (rvKs s0.heap ks kp) (λk=>curV s0.heap k+1) s0).tmps)
 (Alz (Ad8 (remap fDrop (rvKs s0.heap ks kp) (λk=>curV s0.heap k+1) s).tmps (keepOf ws kp)) (Ad8 (remap fDrop (rvKs s0.heap ks kp) (λk=>curV s0.heap k+1) s0).tmps (keepOf ws kp))
  (Ahu (AdZ ks 0 ((remap fDrop (rvKs s0.heap ks kp) (λk=>curV s0.heap k+1) s).heap.take s0.heap.length)) (AdZ ks 0 (remap fDrop (rvKs s0.heap ks kp) (λk=>curV s0.heap k+1) s0).heap) p))
def hdSt (ws ks kp:List Nat) (s:St) (ts:List (Nat×SV)) (hs:List (Nat×HB)):St:=headOf (dropOf (keepOf ws kp) 0 s.tmps) (rvKs s.heap ks kp) (λk=>curV s.heap k+1) s ts hs
def hdOk (ws ks kp:List Nat) (s:St) (ts:List (Nat×SV)) (hs:List (Nat×HB)):Bool:=Acs s.heap.length (hdSt ws ks kp s ts hs).tmps&&(hdSt ws ks kp s ts hs).heap.all (Af3 s.heap.length)
def wfTl:List (Nat×SV)->List Prop
 |[]=>[]
 |(_,y)::r=>wfP y++wfTl r
def wfHB:HB->List Prop
 | .box cells _=>wfP (.agg cells)
 | .row e _ _ xs=>[WL e xs]
 | .froz e _ xs=>[WL e xs]
 | .mp _ _ e _ xs=>[∀(x:Int×List C),x∈xs->WfCs e x.2]
 | .hrow _ _ _ _ x _=>wfP x
 | .gone=>[]
def wfHl:List (Nat×HB)->List Prop
 |[]=>[]
 |(_,y)::r=>wfHB y++wfHl r
def hyp:List Prop->Prop->Prop
 |[],k=>k
 |p::r,k=>an1 p r->k
def Aks (ws:List Nat) (body:St->(Exit->St->Prop)->Prop) (X:Type) (pre:X->Prop) (mk:X->List (Nat×SV)) (hp:X->List (Nat×HB)) (ks kp:List Nat) (mu:X->Nat) (s:St) (Q:Exit->St->Prop):Prop:=
 (∃x,Adr ks kp s s (mk x) (hp x) (pre x) [])/\
 ∀x,ck (hdOk ws ks kp s (mk x) (hp x)) (pre x->hyp (wfTl (mk x)++wfHl (hp x)) ((hdSt ws ks kp s (mk x) (hp x)).force λs1=>body s1 λe s'=>match e with
  | .normal=>(settle s.heap.length s').force λs'=>Aeg ws ks kp s s' (∃y,Adr ks kp s s' (mk y) (hp y) (pre y) [nLt (mu y) (mu x)])
  |e=>Q e s'))
def Akt (ws:List Nat) (body:St->(Exit->St->Prop)->Prop) (X:Type) (pre:X->Prop) (mk:X->List (Nat×SV)) (hp:X->List (Nat×HB)) (ks kp:List Nat) (s:St) (K:St->Prop) (Q:Exit->St->Prop):Prop:=
 (body s λe s'=>match e with
  | .normal=>(settle s.heap.length s').force λs'=>Aeg ws ks kp s s' (∃y,Adr ks kp s s' (mk y) (hp y) (pre y) [])
  |e=>Q e s')/\
 ∀x,ck (hdOk ws ks kp s (mk x) (hp x)) (pre x->hyp (wfTl (mk x)++wfHl (hp x)) ((hdSt ws ks kp s (mk x) (hp x)).force K))
theorem svQ_one {p:Prop} {l:List Prop} (h:some [p]=some l) (ha:an l):p:=by
 injection h with h; subst h; exact ha
mutual
theorem Air:∀(y x:SV) (ps:List Prop),svQ x y=some ps->an ps->svLe x y
 | .any,x,ps,h,ha=>by simp only[svLe]
 | .int k n,x,ps,h,ha=>by
  cases x<;>simp only[svQ]at h<;>first|(cases h; done)|(split at h<;>first|(cases h; done)|(rename_i e; exact⟨e,svQ_one h ha⟩))
 | .lit k n,x,ps,h,ha=>by
  cases x<;>simp only[svQ]at h<;>first|(cases h; done)|(split at h<;>first|(cases h; done)|(rename_i e; exact⟨e,svQ_one h ha⟩))
 | .bool b,x,ps,h,ha=>by
  cases x<;>simp only[svQ]at h<;>first|(cases h; done)|exact svQ_one h ha
 | .blit b,x,ps,h,ha=>by
  cases x<;>simp only[svQ]at h<;>first|(cases h; done)|(split at h<;>first|(cases h; done)|(rename_i e; exact e))
 | .str s,x,ps,h,ha=>by
  cases x<;>simp only[svQ]at h<;>first|(cases h; done)|exact svQ_one h ha
 | .sl e xs,x,ps,h,ha=>by
  cases x<;>simp only[svQ]at h<;>first|(cases h; done)|exact svQ_one h ha|skip
  · split at h
    · rename_i he; exact⟨shEqs_eq _ _ he,svQ_one h ha⟩
    · cases h
  · split at h
    · rename_i he; exact⟨shEqs_eq _ _ he,svQ_one h ha⟩
    · cases h
  · split at h
    · rename_i he;split at h
      · rename_i r hr; exact⟨he,by rw[hr,svQ_one h ha]⟩
      · cases h
    · cases h
 | .slc _ _,x,ps,h,ha=>by cases x<;>simp only[svQ]at h<;>cases h
 | .nilq _,x,ps,h,ha=>by cases x<;>simp only[svQ]at h<;>cases h
 | .nils,x,ps,h,ha=>by cases x<;>simp only[svQ]at h<;>first|(cases h; done)|simp only[svLe]
 | .nilp,x,ps,h,ha=>by cases x<;>simp only[svQ]at h<;>first|(cases h; done)|simp only[svLe]
 | .ref k o,x,ps,h,ha=>by
  cases x<;>simp only[svQ]at h<;>first|(cases h; done)|(split at h<;>first|(cases h; done)|(rename_i e; exact e))
 | .own k c,x,ps,h,ha=>by
  cases x<;>simp only[svQ]at h<;>first|(cases h; done)|(split at h<;>first|(cases h; done)|(rename_i e; exact e))
 | .ownl _ _ _,x,ps,h,ha=>by cases x<;>simp only[svQ]at h<;>cases h
 | .emp,x,ps,h,ha=>by cases x<;>simp only[svQ]at h<;>first|(cases h; done)|simp only[svLe]
 | .undef,x,ps,h,ha=>by cases x<;>simp only[svQ]at h<;>first|(cases h; done)|simp only[svLe]
 | .tup _,x,ps,h,ha=>by cases x<;>simp only[svQ]at h<;>cases h
 | .agg cs,x,ps,h,ha=>by
  cases x<;>simp only[svQ]at h<;>first|(cases h; done)|skip
  split at h
  · rename_i e ys he;split at h
    · rename_i xs hx;have:=svQ_one h ha;subst this;simp only[svLe];rw[datS_of he]; exact Aio hx
    · cases h
  · exact svQs_le cs _ ps h ha
 | .cref cs,x,ps,h,ha=>by
  cases x<;>simp only[svQ]at h<;>first|(cases h; done)|exact svQs_le cs _ ps h ha
 | .fn f cs,x,ps,h,ha=>by
  cases x<;>simp only[svQ]at h<;>first|(cases h; done)|(split at h<;>first|(cases h; done)|(rename_i e; exact⟨e,svQs_le cs _ ps h ha⟩))
 | .slit n sz cs,x,ps,h,ha=>by
  cases x<;>simp only[svQ]at h<;>first|(cases h; done)|(split at h<;>first|(cases h; done)|(rename_i e; exact⟨e.1,e.2,svQs_le cs _ ps h ha⟩))
 | .rref k c sz i off,x,ps,h,ha=>by
  cases x<;>simp only[svQ]at h<;>first|(cases h; done)|(split at h<;>first|(cases h; done)|(rename_i e; exact⟨e.1,e.2.1,e.2.2.1,svQ_one h ha,e.2.2.2⟩))
 | .ownv k c sz lo n,x,ps,h,ha=>by
  cases x<;>simp only[svQ]at h<;>first|(cases h; done)|(split at h<;>first|(cases h; done)|(rename_i e; injection h with h; subst h; exact⟨e.1,e.2.1,e.2.2,ha.1,ha.2⟩))
theorem svQs_le:∀(ys xs:List SV) (ps:List Prop),svQ.go xs ys=some ps->an ps->svLes xs ys
 |[],xs,ps,h,ha=>by
  cases xs with
  |nil=>simp only[svLes,svLe.go]
  |cons x xs=>simp[svQ.go]at h
 |y::ys,xs,ps,h,ha=>by
  cases xs with
  |nil=>simp[svQ.go]at h
  |cons x xs=>
   simp only[svQ.go]at h
   split at h
   · rename_i a b h1 h2
     injection h with h; subst h
     rw[Abv]at ha
     simp only[svLes,svLe.go]
     exact⟨Air y x a h1 ha.1,svQs_le ys xs b h2 ha.2⟩
   · cases h
end
theorem Alm {x y:HB} {ps:List Prop} (h:hbQ x y=some ps) (ha:an ps):hbLe x y:=by
 cases x<;>cases y<;>simp only[hbQ]at h<;>first|(cases h; done)|skip
 · split at h
   · rename_i e;refine⟨?_,e⟩;split at h
     · exact Air _ _ _ h ha
     · exact svQs_le _ _ _ h ha
   · cases h
 · split at h
   · rename_i e; exact⟨shEqs_eq _ _ e.1,e.2.1,e.2.2,svQ_one h ha⟩
   · cases h
 · split at h
   · rename_i e; exact⟨shEqs_eq _ _ e.1,e.2,svQ_one h ha⟩
   · cases h
 · split at h
   · rename_i e; exact⟨e.1,e.2.1,shEqs_eq _ _ e.2.2.1,e.2.2.2,svQ_one h ha⟩
   · cases h
 · exact svQ_one h ha
theorem Alh {l:List SV}:∀ {ts:List (Nat×SV)} {ps:List Prop},qT l ts=some ps->an ps->leT l ts
 |[],_,_,_=>trivial
 |(i,y)::r,ps,h,ha=>by
  simp only[qT]at h;split at h
  · rename_i a b h1 h2;injection h with h; subst h;rw[Abv]at ha;exact⟨Air _ _ _ h1 ha.1,Alh h2 ha.2⟩
  · cases h
theorem Ali {l:List HB}:∀ {ts:List (Nat×HB)} {ps:List Prop},qH l ts=some ps->an ps->leH l ts
 |[],_,_,_=>trivial
 |(i,y)::r,ps,h,ha=>by
  simp only[qH]at h;split at h
  · rename_i a b h1 h2;injection h with h; subst h;rw[Abv]at ha;exact⟨Alm h1 ha.1,Ali h2 ha.2⟩
  · cases h
theorem leA_of {c:Bool} {l:List SV} {ts:List (Nat×SV)} {h:List HB} {hs:List (Nat×HB)} {p:Prop} {ps:List Prop} (hl:leA c l ts h hs p ps):p/\c=true/\leT l ts/\leH h hs/\an ps:=by
 unfold leA at hl;split at hl
 · rename_i a b h1 h2;rw[Ajy,Abv,Abv]at hl;exact⟨hl.1,rfl,Alh h1 hl.2.1,Ali h2 hl.2.2.1,hl.2.2.2⟩
 · exact hl.elim
theorem ck_of {b:Bool} {p:Prop} (h:ck b p):b=true/\p:=by cases b with
 |true=>exact⟨rfl,h⟩
 |false=>exact h.elim
theorem sameHs_of:∀ {a b:List HB} {p:Prop},Ahu a b p->a=b/\p
 |[],[],_,h=>⟨rfl,h⟩
 |[],_::_,_,h=>h.elim
 |_::_,[],_,h=>h.elim
 |x::a,y::b,p,h=>by
  simp only[Ahu]at h;obtain⟨h1,h2⟩:=sameB_of h;obtain⟨h3,h4⟩:=sameHs_of h2;exact⟨by rw[h1,h3],h4⟩
theorem AgR:∀ {ts:List (Nat×SV)},WfTs ts->an (wfTl ts)
 |[],_=>trivial
 |(_,y)::r,h=>by
  simp only[wfTl,Abv];exact⟨(wfP_iff y).2 h.1,AgR h.2⟩
theorem Akr {y:HB} (h:WfHB y):an (wfHB y):=by
 cases y<;>simp only[WfHB]at h<;>first|trivial|exact(wfP_iff (.agg _)).2 h|exact(wfP_iff _).2 h|exact h
theorem AgS:∀ {ts:List (Nat×HB)},WfHs ts->an (wfHl ts)
 |[],_=>trivial
 |(_,y)::r,h=>by
  simp only[wfHl,Abv];exact⟨Akr h.1,AgS h.2⟩
theorem hyp_of:∀ {ps:List Prop} {k:Prop},hyp ps k->an ps->k
 |[],_,h,_=>h
 |_::_,_,h,ha=>h ha
def Aih (ws ks kp:List Nat) (s:St) (ts:List (Nat×SV)) (hs:List (Nat×HB)):Prop:=
 Acs s.heap.length (headOf (dropOf (keepOf ws kp) 0 s.tmps) (rvKs s.heap ks kp) (λk=>curV s.heap k+1) s ts hs).tmps=true/\(headOf (dropOf (keepOf ws kp) 0 s.tmps) (rvKs s.heap ks kp) (λk=>curV s.heap k+1) s ts hs).heap.all (Af3 s.heap.length)=true
def Aej (ws ks kp:List Nat) (s s':St) (X:Type) (pre:X->Prop) (mk:X->List (Nat×SV)) (hp:X->List (Nat×HB)) (q:X->Prop):Prop:=
 Aki (keepOf ws kp) (remap fDrop (rvKs s.heap ks kp) (λk=>curV s.heap k+1) s').tmps (remap fDrop (rvKs s.heap ks kp) (λk=>curV s.heap k+1) s).tmps/\
  AdZ ks 0 ((remap fDrop (rvKs s.heap ks kp) (λk=>curV s.heap k+1) s').heap.take s.heap.length)=AdZ ks 0 (remap fDrop (rvKs s.heap ks kp) (λk=>curV s.heap k+1) s).heap/\
  ∃y,pre y/\natsEq (AfA (hp y)) ks=true/\leT (remap (fTo (λk=>curV s.heap k+1) s'.heap) (rvKs s.heap ks kp) (λk=>curV s.heap k+1) s').tmps (AfU (fVer (λk=>curV s.heap k+1)) (rvKs s.heap ks kp) (mk y))/\
   leH (remap (fTo (λk=>curV s.heap k+1) s'.heap) (rvKs s.heap ks kp) (λk=>curV s.heap k+1) s').heap (mapH1 (fVer (λk=>curV s.heap k+1)) (rvKs s.heap ks kp) (λk=>curV s.heap k+1) (hp y))/\q y
theorem AdN {ws ks kp:List Nat} {s s':St} {X:Type} {pre:X->Prop} {mk:X->List (Nat×SV)} {hp:X->List (Nat×HB)} {ps:X->List Prop}
 (h:Aeg ws ks kp s s' (∃y,Adr ks kp s s' (mk y) (hp y) (pre y) (ps y))):Aej ws ks kp s s' X pre mk hp λy=>an (ps y):=by
 obtain⟨h1,h2⟩:=ck_of h;obtain⟨h3,h4⟩:=sames_of h2;obtain⟨h5,y,h6⟩:=sameHs_of h4;obtain⟨a1,a2,a3,a4,a5⟩:=leA_of h6;exact⟨⟨h1,h3⟩,h5,y,a1,a2,a3,a4,a5⟩
theorem Aho {ws:List Nat} {body:St->(Exit->St->Prop)->Prop} {X:Type} {pre:X->Prop} {mk:X->List (Nat×SV)} {hp:X->List (Nat×HB)} {ks kp:List Nat} {mu:X->Nat} {s:St} {Q:Exit->St->Prop} (h:Aks ws body X pre mk hp ks kp mu s Q):
 (∃x,pre x/\natsEq (AfA (hp x)) ks=true/\leT (remap (fTo (λk=>curV s.heap k+1) s.heap) (rvKs s.heap ks kp) (λk=>curV s.heap k+1) s).tmps (AfU (fVer (λk=>curV s.heap k+1)) (rvKs s.heap ks kp) (mk x))/\
  leH (remap (fTo (λk=>curV s.heap k+1) s.heap) (rvKs s.heap ks kp) (λk=>curV s.heap k+1) s).heap (mapH1 (fVer (λk=>curV s.heap k+1)) (rvKs s.heap ks kp) (λk=>curV s.heap k+1) (hp x)))/\
 (∀x,Aih ws ks kp s (mk x) (hp x))/\
 ∀x,pre x->WfTs (mk x)->WfHs (hp x)->body (headOf (dropOf (keepOf ws kp) 0 s.tmps) (rvKs s.heap ks kp) (λk=>curV s.heap k+1) s (mk x) (hp x)) λe s'=>match e with
  | .normal=>(settle s.heap.length s').force λs'=>Aeg ws ks kp s s' (∃y,Adr ks kp s s' (mk y) (hp y) (pre y) [nLt (mu y) (mu x)])
  |e=>Q e s':=by
 obtain⟨⟨x,hx⟩,h2⟩:=h;obtain⟨a1,a2,a3,a4,_⟩:=leA_of hx;refine⟨⟨x,a1,a2,a3,a4⟩,λx=> ?_,λx hp ht hh=> ?_⟩
 · obtain⟨h3,_⟩:=ck_of (h2 x);simpa only[hdOk,hdSt,Aih,AlG]using h3
 · obtain⟨_,h4⟩:=ck_of (h2 x);have h5:=hyp_of (h4 hp) (Abv.2 ⟨AgR ht,AgS hh⟩);rwa [St.force_eq]at h5
theorem Ahp {ws:List Nat} {body:St->(Exit->St->Prop)->Prop} {X:Type} {pre:X->Prop} {mk:X->List (Nat×SV)} {hp:X->List (Nat×HB)} {ks kp:List Nat} {s:St} {K:St->Prop} {Q:Exit->St->Prop} (h:Akt ws body X pre mk hp ks kp s K Q):
 (∀x,Aih ws ks kp s (mk x) (hp x))/\
 (body s λe s'=>match e with
  | .normal=>(settle s.heap.length s').force λs'=>Aeg ws ks kp s s' (∃y,Adr ks kp s s' (mk y) (hp y) (pre y) [])
  |e=>Q e s')/\
 ∀x,pre x->WfTs (mk x)->WfHs (hp x)->K (headOf (dropOf (keepOf ws kp) 0 s.tmps) (rvKs s.heap ks kp) (λk=>curV s.heap k+1) s (mk x) (hp x)):=by
 obtain⟨h1,h2⟩:=h;refine⟨λx=> ?_,h1,λx hp ht hh=> ?_⟩
 · obtain⟨h3,_⟩:=ck_of (h2 x);simpa only[hdOk,hdSt,Aih,AlG]using h3
 · obtain⟨_,h4⟩:=ck_of (h2 x);have h5:=hyp_of (h4 hp) (Abv.2 ⟨AgR ht,AgS hh⟩);rwa [St.force_eq]at h5
def St.know (s:St) (c:Operand) (b:Bool):St:=match c with| .tmp t=>s.put (some t) (.blit b)|_=>s
def AeV (P:Program) (s:St) (o3 o4:Oper) (K:St->Prop):Prop:=
 match o3.op,o3.guard,o3.dst,o4.op,o4.guard,o4.dst with
 | .slice t x (some y) none none,none,some d,.call c,none,none=>
  (match c.callee,c.args.toList,c.argTypes.toList,s.ev x,numOf (s.ev y),P.underlying t with
  | .builtin .clear,[.tmp d'],[t'],.own k v,some (_,l,_),some (.slice elem)=>
   (match s.heap[k]?,AbJ P elem,szTy P elem with
   |some (.row e ty w xs),some z,some sz=>
    (match toCs e (ofVs z)with
    |some (zs,[])=>if d'=d/\t'=t/\v=w/\ty=elem/\sz=e.length/\z.length=sz/\0<sz/\d<s.tmps.length then
     (pLe 0 l/\pLe l (iLen xs))/\K (St.put ⟨s.tmps,s.heap.set k (.row e ty w (xs.take l.toNat++List.replicate (xs.length-l.toNat) zs))⟩ (some d) .any)
     else False
    |_=>False)
   |_,_,_=>False)
  |_,_,_,_,_,_=>False)
 |_,_,_,_,_,_=>False
def Ajv (G:Nat->Option Ct) (ops:List Oper):Option (List Oper×Oper×Oper):=
 match ops with
 |[o1,o2,o3,o4]=>(match o3.op,o4.op with
  | .slice t _ _ _ _,.call c=>(match c.callee with
   | .builtin .clear=>if(G (2000000+t)).isSome then some ([o1,o2],o3,o4)else none
   |_=>none)
  |_,_=>none)
 |_=>none
theorem Aju {G:Nat->Option Ct} {ops l:List Oper} {o3 o4:Oper} (h:Ajv G ops=some (l,o3,o4)):ops=l++[o3,o4]:=by
 unfold Ajv at h;split at h
 · split at h
   · split at h
     · split at h
       · simp only[AlC,AlH]at h;obtain⟨rfl,rfl,rfl⟩:=h;rfl
       · cases h
     · cases h
   · cases h
 · cases h
def Abd (P:Program) (G:Nat->Option Ct) (wr:Bool) (A:Nat->LoopAnn) (draw:Inl->Array Oper->St->(St->Prop)->Prop) (inl:Inl):Code->St->(Exit->St->Prop)->Prop
 | .skip,s,Q=>Q .normal s
 | .region _ ops d,s,Q=>if d then draw inl ops s (λs=>s.force (Q .normal))else(match Ajv G ops.toList with
  |some (l,o3,o4)=>AdQ P G wr inl ops.toList l s (λs=>AeV P s o3 o4 λs=>s.force (Q .normal))
  |none=>AdQ P G wr inl ops.toList ops.toList s (λs=>s.force (Q .normal)))
 | .seq a b,s,Q=>match(A ((nameOf b).getD 0+1000000)).res s with
  |(.cut X pre mk hp ks kp,s)=>Akt (wrOf a) (Abd P G wr A draw inl a) X pre mk hp ks kp s (λs'=>Abd P G wr A draw inl b s' Q) Q
  |(_,s)=>Abd P G wr A draw inl a s λe s'=>match e with
   | .normal=>Abd P G wr A draw inl b ((A ((nameOf b).getD 0+2000000)).res s').2 Q
   |e=>Q e s'
 | .cond c a b,s,Q=>match s.ev c with
  | .blit t=>if t then Abd P G wr A draw inl a s Q else Abd P G wr A draw inl b s Q
  | .bool t=>Cn t (Abd P G wr A draw inl a (s.know c true) Q) (Abd P G wr A draw inl b (s.know c false) Q)
  | .nilq xs=>(xs=[]->Abd P G wr A draw inl a s Q)/\Abd P G wr A draw inl b s Q
  |_=>False
 | .block id c,s,Q=>Abd P G wr A draw inl c s λe s'=>match e with
  | .exit j=>if j=id then Q .normal s' else Q (.exit j) s'
  |e=>Q e s'
 | .loop c,s,Q=>match(A ((nameOf c).getD 0)).res s with
  |(.unroll n,s)=>AdR (Abd P G wr A draw inl c) n s Q
  |(.inv X pre mk hp ks kp mu,s)=>Aks (wrOf c) (Abd P G wr A draw inl c) X pre mk hp ks kp mu s Q
  |(.hand h,s)=>h.F P c s λe s'=>s'.force (Q e)
  |_=>False
 | .exit id,s,Q=>Q (.exit id) s
 | .ret,s,Q=>Q .ret s
 | .scope c,s,Q=>Abd P G wr A draw inl c s λe s'=>match e with
  | .goto _=>False
  |e=>Q e s'
 | .label _,s,Q=>Q .normal s
 |_,_,_=>False
def resOf (P:Program) (s:St):ResultVar->Option SV
 | .tmp t=>some (s.tmps.getD t .undef)
 | .cell a t=>match s.tmps.getD a .undef with
  | .ref k off=>match s.heap[k]? with
   |some (.box cells _)=>Adx P t cells off
   |_=>none
  |_=>none
def Ag5 (P:Program) (s:St) (rs:List ResultVar):Option SV:=
 match rs.mapM (resOf P s)with
 |some [x]=>some x
 |some l=>some (.tup l)
 |none=>none
def Ad7 (P:Program) (G:Nat->Option Ct) (wr:FuncId->Bool) (A:FuncId->Nat->LoopAnn) (draw:Bool->Inl->Array Oper->St->(St->Prop)->Prop):Nat->Inl
 |0,_,_,_,_=>False
 |n+1,f,args,heap,K=>
  match P.funcs[f]? with
  |some fn=>(match fn.body with
   |some c=>if fn.name== "runtime.NumGoroutine" then False else
    Abd P G (wr f) (A f) (draw (wr f)) (Ad7 P G wr A draw n) c ⟨args++List.replicate (fn.ntmps-args.length) .undef,heap⟩ λe s=>
     match e with
     | .normal| .ret=>(match Ag5 P s fn.results.toList with|some x=>K x s.heap|none=>False)
     |_=>False
   |none=>False)
  |none=>False
end Go.Sx

