import Derived.Test.YtejdbdegdanecaaGreatSxCore
set_option linter.unusedVariables false
set_option linter.unusedSimpArgs false
namespace Go.Sx
open Go.RowKit
def InR:IntKind->Int->Prop
 | .i8,n=> -128<=n/\n<=127
 | .i16,n=> -32768<=n/\n<=32767
 | .i32,n=> -2147483648<=n/\n<=2147483647
 | .i64,n=> -9223372036854775808<=n/\n<=9223372036854775807
 | .u8,n=>0<=n/\n<=255
 | .u16,n=>0<=n/\n<=65535
 | .u32,n=>0<=n/\n<=4294967295
 | .u64,n=>0<=n/\n<=18446744073709551615
def inRb:IntKind->Int->Bool
 | .i8,n=>decide (-128<=n)&&decide (n<=127)
 | .i16,n=>decide (-32768<=n)&&decide (n<=32767)
 | .i32,n=>decide (-2147483648<=n)&&decide (n<=2147483647)
 | .i64,n=>decide (-9223372036854775808<=n)&&decide (n<=9223372036854775807)
 | .u8,n=>decide (0<=n)&&decide (n<=255)
 | .u16,n=>decide (0<=n)&&decide (n<=65535)
 | .u32,n=>decide (0<=n)&&decide (n<=4294967295)
 | .u64,n=>decide (0<=n)&&decide (n<=18446744073709551615)
theorem inRb_iff {k:IntKind} {n:Int}:inRb k n=true↔InR k n:=by cases k<;>simp[inRb,InR]
theorem InR.wrap {k:IntKind} {n:Int} (h:InR k n):k.wrap n=n:=by
 cases k
 · exact IntWalk.i8_in n h
 · exact IntWalk.i16_in n h
 · exact IntWalk.i32_in n h
 · exact IntWalk.i64_in n h
 · exact IntWalk.u8_in n h
 · exact IntWalk.u16_in n h
 · exact IntWalk.u32_in n h
 · exact IntWalk.u64_in n h
theorem inR_wrap (k:IntKind) (n:Int):InR k (k.wrap n):=by
 cases k<;>simp only[InR,IntKind.wrap,IntKind.bits,IntKind.signed]<;>simp<;>(try split)<;>omega
def widens:IntKind->IntKind->Bool
 | .i8,.i8| .i8,.i16| .i8,.i32| .i8,.i64| .i16,.i16| .i16,.i32| .i16,.i64| .i32,.i32| .i32,.i64| .i64,.i64=>true
 | .u8,.u8| .u8,.u16| .u8,.u32| .u8,.u64| .u8,.i16| .u8,.i32| .u8,.i64=>true
 | .u16,.u16| .u16,.u32| .u16,.u64| .u16,.i32| .u16,.i64| .u32,.u32| .u32,.u64| .u32,.i64| .u64,.u64=>true
 |_,_=>false
theorem InR.widen {k j:IntKind} {n:Int} (h:InR k n) (hw:widens k j=true):InR j n:=by
 cases k<;>cases j<;>first|(simp[widens]at hw; done)|(simp only[InR]at*; omega)
mutual
def WfC:Sh->C->Prop
 | .int k,c=>InR k c.int
 | .bool,_=>True
 | .str,c=>c.str.size<=maxLen
 | .sl e,c=>c.list.length<=maxLen/\∀x∈c.list,WfCs e x
def WfCs:List Sh->List C->Prop
 |[],cs=>cs=[]
 |s::r,cs=>cs≠[]/\WfC s (cs.headD default)/\WfCs r cs.tail
end
mutual
def Wf:SV->Prop
 | .any| .undef| .bool _| .blit _| .nils| .ref _ _| .nilp| .own _ _| .ownl _ _ _| .rref _ _ _ _ _| .ownv _ _ _ _ _| .emp| .nilq _=>True
 | .int k n=>InR k n
 | .lit k n=>InR k n
 | .str s=>s.size<=maxLen
 | .agg cs=>Wfs cs
 | .tup cs=>Wfs cs
 | .sl e xs=>xs.length<=maxLen/\∀x∈xs,WfCs e x
 | .slc e xs=>xs.length<=maxLen/\∀x∈xs,WfCs e x
 | .slit n _ cs=>n<=16777216/\Wfs cs
 | .cref cs=>Wfs cs
 | .fn _ cs=>Wfs cs
def Wfs:List SV->Prop
 |[]=>True
 |c::cs=>Wf c/\Wfs cs
end
theorem Wfs.all:∀ {cs:List SV},Wfs cs↔∀c∈cs,Wf c
 |[]=>by simp[Wfs]
 |c::cs=>by simp[Wfs,Wfs.all (cs:=cs)]
def WfHB:HB->Prop
 | .box cells _=>Wfs cells
 | .row e _ _ xs=>xs.length<=maxLen/\∀x∈xs,WfCs e x
 | .froz e _ xs=>xs.length<=maxLen/\∀x∈xs,WfCs e x
 | .mp _ _ e _ xs=>∀x∈xs,WfCs e x.2
 | .hrow _ _ _ _ x _=>Wf x
 | .gone=>True
def WfH (heap:List HB):Prop:=∀(k:Nat) (hb:HB),heap[k]? =some hb->WfHB hb
def ofC:Sh->C->SV
 | .int k,c=> .int k c.int
 | .bool,c=> .bool c.bool
 | .str,c=> .str c.str
 | .sl e,c=> .sl e c.list
def ofCs:List Sh->List C->List SV
 |[],_=>[]
 |s::r,cs=>ofC s (cs.headD default)::ofCs r cs.tail
def datS:List SV->Option (List Sh×List C)
 |[]=>some ([],[])
 | .int k n::r=>(datS r).map λx=>(.int k::x.1,.i n::x.2)
 | .bool b::r=>(datS r).map λx=>(.bool::x.1,.b b::x.2)
 | .str s::r=>(datS r).map λx=>(.str::x.1,.s s::x.2)
 | .sl e xs::r=>(datS r).map λx=>(.sl e::x.1,.l xs::x.2)
 |_=>none
theorem datS_of:∀ {cs:List SV} {e:List Sh} {xs:List C},datS cs=some (e,xs)->cs=ofCs e xs
 |[],e,xs,h=>by simp only[datS]at h; injection h with h; injection h with h1 h2; subst h1; subst h2; rfl
 |c::r,e,xs,h=>by
  cases c<;>simp only[datS]at h<;>first|(cases h; done)|skip
  all_goals
   rw[Option.map_eq_some_iff]at h
   obtain⟨y,hy,h⟩:=h
   injection h with h1 h2
   subst h1; subst h2
   rw[datS_of hy]; rfl
def WL (sh:List Sh) (xs:List (List C)):Prop:=xs.length<=9223372036854775807/\∀(x:List C),x∈xs->WfCs sh x
def AjB (s:ByteArray):Prop:=s.size<=9223372036854775807
def WD (e:List Sh) (xs:List C):Prop:=Wfs (ofCs e xs)
def an1:Prop->List Prop->Prop
 |p,[]=>p
 |p,q::r=>p/\an1 q r
def an:List Prop->Prop
 |[]=>True
 |p::r=>an1 p r
def wfP:SV->List Prop
 | .int k n=>[InR k n]
 | .lit k n=>[InR k n]
 | .str s=>[AjB s]
 | .agg cs=>(match datS cs with|some (e,xs)=>if 4<e.length then[WD e xs]else go cs|none=>go cs)
 | .tup cs=>go cs
 | .sl e xs=>[WL e xs]
 | .slc e xs=>[WL e xs]
 | .slit n _ cs=>(n<=16777216)::go cs
 | .cref cs=>go cs
 | .fn _ cs=>go cs
 |_=>[]
where go:List SV->List Prop
 |[]=>[]
 |c::cs=>wfP c++go cs
theorem Ajy {p:Prop} {l:List Prop}:an1 p l↔p/\an l:=by cases l<;>simp[an1,an]
theorem Af4 {p:Prop} {l:List Prop}:an (p::l)↔p/\an l:=Ajy
theorem Abv:∀ {a b:List Prop},an (a++b)↔an a/\an b
 |[],b=>by simp[an]
 |p::a,b=>by rw[Anu,Af4,Af4,Abv,and_assoc]
theorem AhY {p:Prop}:an [p]↔p:=Iff.rfl
theorem Akp:an []↔True:=Iff.rfl
mutual
theorem wfP_iff:∀(x:SV),an (wfP x)↔Wf x
 | .any| .undef| .bool _| .blit _| .nils| .ref _ _| .nilp| .own _ _| .ownl _ _ _| .rref _ _ _ _ _| .ownv _ _ _ _ _| .emp| .nilq _=>by simp only[wfP,Wf,Akp]
 | .int _ _| .lit _ _=>by simp only[wfP,Wf,AhY]
 | .str _=>by simp only[wfP,Wf,AhY]; exact Iff.rfl
 | .sl _ _| .slc _ _=>by simp only[wfP,Wf,AhY]; exact Iff.rfl
 | .agg cs=>by
  simp only[wfP,Wf];split
  · rename_i e xs h;split
    · rw[AhY,datS_of h]; exact Iff.rfl
    · exact wfPs_iff cs
  · exact wfPs_iff cs
 | .tup cs| .cref cs| .fn _ cs=>by simp only[wfP,Wf]; exact wfPs_iff cs
 | .slit n _ cs=>by simp only[wfP,Wf,Af4,wfPs_iff cs]
theorem wfPs_iff:∀(cs:List SV),an (wfP.go cs)↔Wfs cs
 |[]=>by simp only[wfP.go,Wfs,Akp]
 |c::cs=>by simp only[wfP.go,Wfs,Abv,wfP_iff c,wfPs_iff cs]
end
mutual
def shEq:Sh->Sh->Bool
 | .int k,t=>match t with| .int j=>k==j|_=>false
 | .bool,t=>match t with| .bool=>true|_=>false
 | .str,t=>match t with| .str=>true|_=>false
 | .sl e,t=>match t with| .sl f=>shEqs e f|_=>false
def shEqs:List Sh->List Sh->Bool
 |[],t=>t.isEmpty
 |a::r,t=>match t with|b::s=>shEq a b&&shEqs r s|[]=>false
end
def toRows (g:List SV->Option (List C×List SV)):Nat->List SV->Option (List (List C))
 |0,_=>some []
 |n+1,cs=>match g cs with
  |some (x,rest)=>(toRows g n rest).map (x:: ·)
  |none=>none
def toC1 (k:Sh):SV->Option C
 | .int j n=>match k with| .int k=>if k=j then some (.i n)else none|_=>none
 | .lit j n=>match k with| .int k=>if k=j then some (.i n)else none|_=>none
 | .bool b=>match k with| .bool=>some (.b b)|_=>none
 | .blit b=>match k with| .bool=>some (.b b)|_=>none
 | .str s=>match k with| .str=>some (.s s)|_=>none
 |_=>none
mutual
def toC:Sh->SV->Option C
 | .int k,v=>toC1 (.int k) v
 | .bool,v=>toC1 .bool v
 | .str,v=>toC1 .str v
 | .sl e,v=>match v with
  | .nils=>some (.l [])
  | .emp=>some (.l [])
  | .sl f xs=>if shEqs e f then some (.l xs)else none
  | .slc f xs=>if shEqs e f then some (.l xs)else none
  | .slit n sz cs=>if sz=e.length then(toRows (toCs e) n cs).map .l else none
  |_=>none
def toCs:List Sh->List SV->Option (List C×List SV)
 |[],cs=>some ([],cs)
 |s::r,cs=>match cs with
  |c::cs=>match toC s c,toCs r cs with
   |some x,some (xs,rest)=>some (x::xs,rest)
   |_,_=>none
  |[]=>none
end
mutual
theorem Akv:∀(a b:Sh),shEq a b=true->a=b
 | .int k,b=>λh=>by cases b<;>simp[shEq]at h; rw[h]
 | .bool,b=>λh=>by cases b<;>simp[shEq]at h; rfl
 | .str,b=>λh=>by cases b<;>simp[shEq]at h; rfl
 | .sl e,b=>λh=>by
  cases b<;>simp[shEq]at h
  rw[shEqs_eq e _ h]
theorem shEqs_eq:∀(a b:List Sh),shEqs a b=true->a=b
 |[],b=>λh=>by cases b<;>simp[shEqs]at h; rfl
 |x::r,b=>λh=>by
  cases b with
  |nil=>simp[shEqs]at h
  |cons y s=>
   simp only[shEqs,AlG]at h
   rw[Akv x y h.1,shEqs_eq r s h.2]
end
theorem Adi (V:Vw) (s:Sh) (c:C) (v:Value):VR V (ofC s c) v↔RepC V.w V.ok s c v:=by
 cases s<;>simp[ofC,VR,RepC,C.list]
theorem AjA (s:Sh) (c:C):Wf (ofC s c)↔WfC s c:=by
 cases s<;>simp[ofC,Wf,WfC]
theorem Adp:∀(e:List Sh) (cs:List C),WfCs e cs->Wfs (ofCs e cs)
 |[],_,_=>by simp[ofCs,Wfs]
 |s::r,cs,h=>by
  simp only[WfCs]at h;simp only[ofCs,Wfs];exact⟨(AjA _ _).2 h.2.1,Adp r _ h.2.2⟩
theorem Aev (V:Vw):∀(e:List Sh) (cs:List C) (b o:Nat),RepCs V.w V.ok e cs b o->VRc V (ofCs e cs) b o
 |[],_,_,_,_=>by simp[ofCs,VRc]
 |s::r,cs,b,o,h=>by
  simp only[RepCs]at h;simp only[ofCs,VRc];obtain⟨⟨u,h1,h2,h3⟩,h4⟩:=h;exact⟨⟨u,h1,h2,(Adi V s _ u).2 h3⟩,Aev V r _ b _ h4⟩
theorem Abw (g:List SV->Option (List C×List SV)):∀(n:Nat) (cs:List SV) (xs:List (List C)),toRows g n cs=some xs->xs.length=n
 |0,cs,xs,h=>by simp only[toRows]at h; injection h with h; subst h; rfl
 |n+1,cs,xs,h=>by
  simp only[toRows]at h;split at h
  · rename_i x rest _
    cases hr:toRows g n rest with
    |none=>simp[hr]at h
    |some ys=>
     simp only[hr,AlM]at h
     injection h with h; subst h
     simp[Abw g n rest ys hr]
  · cases h
mutual
theorem AdT (V:Vw):∀(s:Sh) (x:SV) (c:C) (v:Value),toC s x=some c->VR V x v->RepC V.w V.ok s c v
 | .int k,x,c,v,h,hv=>by
  simp only[toC]at h
  cases x<;>simp only[toC1]at h<;>first|(cases h; done)|skip
  all_goals
   split at h
   · rename_i hk
     injection h with h; subst h; subst hk
     simpa only[RepC,VR,C.int]using hv
   · cases h
 | .bool,x,c,v,h,hv=>by
  simp only[toC]at h
  cases x<;>simp only[toC1]at h<;>first|(cases h; done)|skip
  all_goals
   injection h with h; subst h
   simpa only[RepC,VR,C.bool]using hv
 | .str,x,c,v,h,hv=>by
  simp only[toC]at h
  cases x<;>simp only[toC1]at h<;>first|(cases h; done)|skip
  all_goals
   injection h with h; subst h
   simpa only[RepC,VR,C.str]using hv
 | .sl e,x,c,v,h,hv=>by
  cases x with
  |nils=>
   simp only[toC]at h
   injection h with h; subst h
   simp only[VR]at hv
   subst hv
   simp only[RepC,C.list]
   exact⟨_,_,_,rfl,AlT _,by simp[maxLen],rfl,.inl rfl⟩
  |emp=>
   simp only[toC]at h
   injection h with h; subst h
   simp only[VR]at hv
   obtain⟨a,rfl⟩:=hv
   simp only[RepC,C.list]
   exact⟨_,_,_,rfl,AlT _,by simp[maxLen],rfl,.inl rfl⟩
  |sl f xs=>
   simp only[toC]at h
   split at h
   · rename_i hs
     injection h with h; subst h
     rw[shEqs_eq e f hs]
     simpa only[VR]using hv
   · cases h
  |slc f xs=>
   simp only[toC]at h
   split at h
   · rename_i hs
     injection h with h; subst h
     rw[shEqs_eq e f hs]
     simp only[VR]at hv
     exact hv.1
   · cases h
  |slit n sz cs=>
   simp only[toC]at h
   split at h
   · rename_i hs
     cases hr:toRows (toCs e) n cs with
     |none=>simp[hr]at h
     |some xs=>
      simp only[hr,AlM]at h
      injection h with h; subst h
      simp only[VR]at hv
      obtain⟨a,cap,rfl,h1,h2,h3,b,o,ha,hb,hc⟩:=hv
      simp only[RepC,C.list]
      refine⟨a,n,cap,rfl,h1,h2,(Abw _ n cs xs hr).symm,.inr ⟨b,o,ha,hb,λi hi=> ?_⟩⟩
      exact AdS V e n cs xs b o (AfK V e) hr hc i hi
   · cases h
  |_=>simp[toC]at h
theorem AfK (V:Vw):∀(e:List Sh) (cs:List SV) (ys:List C) (rest:List SV) (b o:Nat),toCs e cs=some (ys,rest)->VRc V cs b o->RepCs V.w V.ok e ys b o/\VRc V rest b (o+e.length)
 |[],cs,ys,rest,b,o,h,hc=>by
  simp only[toCs]at h;injection h with h; injection h with h1 h2; subst h1; subst h2;exact⟨by simp only[RepCs],by simpa using hc⟩
 |s::r,cs,ys,rest,b,o,h,hc=>by
  cases cs with
  |nil=>simp[toCs]at h
  |cons x cs=>
   simp only[toCs]at h
   split at h
   · rename_i z zs rest' h1 h2
     injection h with h; injection h with h3 h4; subst h3; subst h4
     simp only[VRc]at hc
     obtain⟨⟨u,hu,hone,hr⟩,hc'⟩:=hc
     have hrec:=AfK V r cs zs rest' b (o+1) h2 hc'
     simp only[RepCs,Al4,AmD]
     exact⟨⟨⟨u,hu,hone,AdT V s x z u h1 hr⟩,hrec.1⟩,by rw[Al9,show o+(r.length+1)=o+1+r.length by omega]; exact hrec.2⟩
   · cases h
theorem AdS (V:Vw) (e:List Sh):∀(n:Nat) (cs:List SV) (xs:List (List C)) (b o:Nat),
 (∀(cs:List SV) (ys:List C) (rest:List SV) (b o:Nat),toCs e cs=some (ys,rest)->VRc V cs b o->RepCs V.w V.ok e ys b o/\VRc V rest b (o+e.length))->
 toRows (toCs e) n cs=some xs->VRc V cs b o->∀i,i<n->RepCs V.w V.ok e (xs.getD i []) b (o+i*e.length)
 |0,_,_,_,_,_,_,_,i,hi=>by omega
 |n+1,cs,xs,b,o,hg,h,hc,i,hi=>by
  simp only[toRows]at h;split at h
  · rename_i x rest h1
    cases hr:toRows (toCs e) n rest with
    |none=>simp[hr]at h
    |some ys=>
     simp only[hr,AlM]at h
     injection h with h; subst h
     have h2:=hg cs x rest b o h1 hc
     cases i with
     |zero=>simpa using h2.1
     |succ i=>
      have h3:=AdS V e n rest ys b (o+e.length) hg hr h2.2 i (by omega)
      simpa[Amz,Ami,Amh e.length]using h3
  · cases h
end
end Go.Sx

