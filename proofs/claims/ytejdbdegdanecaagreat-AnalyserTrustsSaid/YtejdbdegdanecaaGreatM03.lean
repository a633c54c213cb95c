import Derived.Test.YtejdbdegdanecaaGreatSxUse
import Derived.Test.YtejdbdegdanecaaGreatProg
import Derived.Lib.Mul64
namespace Go.Sx
abbrev AnC:=InR .i64
abbrev AnD:=InR .u64
abbrev AnE {α:Type} (x:List α):Prop:=pLe (iLen x) 9223372036854775807
abbrev AnF (a:List (List C)):=I a 0 0
abbrev AnG (a:List (List C)):=I a 1 0
abbrev AnH (a:List (List C)):=I a 0 1
abbrev AnI (a:List (List C)):=I a 2 0
abbrev AnJ (a:List (List C)):=I a 1 1
abbrev AnK (a:List (List C)):=I a 0 2
abbrev AnL (a:List (List C)):=I a 0 3
abbrev AnM (a:List (List C)):=I a 3 0
abbrev AnN (a:List (List C)):=I a 4 0
abbrev AnO (a:List (List C)):=I a 2 1
abbrev AnP (a:List (List C)):=I a 1 3
abbrev AnQ:=arg 0
abbrev AnR:=arg 1
end Go.Sx
set_option linter.unusedVariables false
set_option linter.unusedSimpArgs false
set_option maxRecDepth 100000
set_option maxHeartbeats 4000000
namespace Go.Sx
open Go.RowKit
theorem AbT:Go.Proofs.Tryz.prog.follows .mixedOrders=true:=by kernel_rfl
end Go.Sx
noncomputable section
namespace Go.Sx
noncomputable section
noncomputable abbrev PR:Program:=Go.Proofs.Tryz.prog
def U:List (List C)->FuncId->Nat->LoopAnn:=λ_ _ _=> .unroll 200
def Kw (wr:FuncId->Bool) (u:List (Cr PR)) (f n:Nat) (ct:Ct) (A:List (List C)->FuncId->Nat->LoopAnn)
 (h:∀args,Ad6 (hyp (wfP.go (ofRess ct.ps args)) (ct.pre args->vcF PR (look (tbR u)) wr (A args) n f (ofRess ct.ps args) [] λsv heap=>Gives ct.rs (ct.out args) sv heap)))
 (hbx:ct.bx=none:=by rfl) (hrs:ct.rs.isEmpty=false:=by rfl) (how:ct.ow=none:=by rfl) (hfr:ct.fr=none:=by rfl):Cr PR:=
 ⟨f,ct,AgQ AbT (AeA u) wr A n f ct h hbx hrs how hfr⟩
def K (u:List (Cr PR)) (f n:Nat) (ct:Ct) (A:List (List C)->FuncId->Nat->LoopAnn)
 (h:∀args,Ad6 (hyp (wfP.go (ofRess ct.ps args)) (ct.pre args->vcF PR (look (tbR u)) (λ_=>false) (A args) n f (ofRess ct.ps args) [] λsv heap=>Gives ct.rs (ct.out args) sv heap)))
 (hbx:ct.bx=none:=by rfl) (hrs:ct.rs.isEmpty=false:=by rfl) (how:ct.ow=none:=by rfl) (hfr:ct.fr=none:=by rfl):Cr PR:=
 ⟨f,ct,AgQ AbT (AeA u) (λ_=>false) A n f ct h hbx hrs how hfr⟩
theorem Ajk:∀ {l:List Prop} {p k:Prop},hyp l k->hyp l (p->k)
 |[],_,_,h=>λ_=>h
 |_::_,_,_,h=>λha _=>h ha
def K0 (u:List (Cr PR)) (f n:Nat) (ct:Ct) (A:List (List C)->FuncId->Nat->LoopAnn)
 (h:∀args,Ad6 (hyp (wfP.go (ofRess ct.ps args)) (vcF PR (look (tbR u)) (λ_=>false) (A args) n f (ofRess ct.ps args) [] λsv heap=>Gives ct.rs (ct.out args) sv heap)))
 (hbx:ct.bx=none:=by rfl) (hrs:ct.rs.isEmpty=false:=by rfl) (how:ct.ow=none:=by rfl) (hfr:ct.fr=none:=by rfl):Cr PR:=
 K u f n ct A (λa=>⟨Ajk (h a).out⟩) hbx hrs how hfr
def KB (u:List (Cr PR)) (f n:Nat) (ct:Ct) {t:TypeId} {e:List Sh} (A:List (List C)->FuncId->Nat->LoopAnn)
 (h:∀args,Ad6 (hyp (wfP.go (ofRess ((true,e)::ct.ps) args)) (ct.pre args->vcF PR (look (tbR u)) (λ_=>false) (A args) n f (.ref 0 0::ofRess ct.ps args.tail) [.box (ofCs e (args.headD [])) t] λsv heap=>GivesB t e ct.rs (ct.out args) sv heap)))
 (hbx:ct.bx=some (t,e):=by rfl) (hrs:ct.rs.isEmpty=false:=by rfl):Cr PR:=
 ⟨f,ct,Ail AbT (AeA u) (λ_=>false) A n f ct h hbx hrs⟩
def mark (n:Nat):Cr PR:=⟨n,{ps:=[],rs:=[],pre:=λ_=>False,out:=λ_=>[]},
 ⟨λ_ _ h=>False.elim h,λ_ _ _ _ _ _ _ _ _ h _=>False.elim h,λt e h=>(by cases h),λt e r _ h=>(by cases h),λt e _ _ h=>(by cases h)⟩⟩
theorem D:(∀ {α:Type} {x:α},Sm x↔True)/\(∀ {b X Y},Cn b X Y↔(b=true->X)/\(b=false->Y))/\(∀a b,iAdd a b=a+b)/\(∀a b,iSub a b=a-b)/\(∀a b,iMul a b=a*b)/\(∀a b,iQuo a b=a.tdiv b)/\(∀a b,iRem a b=a.tmod b)
 /\(∀a b,iMin a b=min a b)/\(∀a b,iMax a b=max a b)/\(∀ {α:Type} (l:List α),iLen l=l.length)/\(∀a b n,pIn a b n↔a<=n/\n<b)/\(∀a b,pNe a b↔a≠b)/\(∀a b,pLe a b↔a<=b)/\(∀a b,nLt a b↔a<b)/\(∀b n,Abb b n↔n*(b:Int)<=140737488355328):=
 ⟨Abc,Cn_iff,λ_ _=>rfl,λ_ _=>rfl,λ_ _=>rfl,λ_ _=>rfl,λ_ _=>rfl,λ_ _=>rfl,λ_ _=>rfl,λ_=>rfl,λ_ _ _=>Iff.rfl,λ_ _=>Iff.rfl,λ_ _=>Iff.rfl,λ_ _=>Iff.rfl,λ_ _=>Iff.rfl⟩
theorem E:(∀p:Prop,(True/\p)=p)/\(∀p:Prop,(p/\True)=p)/\(∀p:Prop,(True->p)=p)/\(∀a b,bEq a b=decide (a=b))/\(∀a b,bNe a b= !decide (a=b))/\(∀a b,bLt a b=decide (a<b))/\(∀a b,bLe a b=decide (a<=b))/\(∀a,bNot a= !a)/\(∀p [Decidable p],(decide p=true)=p)/\(∀p [Decidable p],(decide p=false)=¬p)
 /\(∀b:Bool,((!b)=true)=(b=false))/\(∀b:Bool,((!b)=false)=(b=true))/\(∀a b:Bool,bAnd a b=(a&&b)):=
 ⟨λ_=>true_and _,λ_=>and_true _,λp=>propext ⟨λh=>h trivial,λh _=>h⟩,λ_ _=>rfl,λ_ _=>rfl,λ_ _=>rfl,λ_ _=>rfl,λ_=>rfl,λp _=>by simp,λp _=>by simp,λb=>by cases b<;>simp,λb=>by cases b<;>simp,λ_ _=>rfl⟩
end
abbrev hS:List Sh:=[.int .i64,.int .i64,.int .i64]
abbrev hP:List Sh:=[.int .i64,.int .i64,.int .i64,.int .i64,.int .i64]
abbrev hR:List Sh:=[.int .i64,.int .i64,.int .i64,.int .i64,.int .i64,.int .i64,.sl hW]
abbrev hG:List Sh:=[.int .i64,.int .i64,.int .i64,.int .i64,.int .i64,.int .i64,.int .i64,.int .i64,.int .i64,.int .i64,.int .i64,.sl hW,.int .i64,.int .i64]
abbrev hM:List Sh:=[.sl hL]
abbrev hX:List Sh:=[.int .i64,.sl hII,.sl hL,.sl hII]
abbrev hD:List Sh:=[.int .u64,.str,.int .i64,.int .i64,.int .i64,.int .i64,.int .i64,.sl hX]
abbrev hC:List Sh:=[.int .i64,.int .i64,.sl hI,.int .i64]
abbrev hV:List Sh:=[.int .u64,.str,.int .i64,.int .i64,.int .i64,.int .i64,.int .i64,.sl hX,.int .i64,.int .i64,.sl hI,.int .i64,.int .i64,.int .i64,.sl hS,.bool,.int .i64,.int .i64,.int .i64,.int .i64,.int .i64,.int .i64,.int .i64,.int .i64,.int .i64,.int .i64,.int .i64,.int .i64,.sl hW,.int .i64,.int .i64]
end Go.Sx
namespace Go
open Go.Sx
def E5 (f:List C->Bool) (xs:List (List C)) (i:Int):Prop:=0<=i/\i<=(xs.length:Int)/\(xs.drop i.toNat).all f=xs.all f
def DK (f:List C->Bool) (xs:List (List C)) (i:Int):Prop:=0<=i/\i<=(xs.length:Int)/\(xs.drop i.toNat).any f=xs.any f
def DD (g:List C->List C->Bool) (xs:List (List C)) (ys:List (List C)):Bool:=
 match xs,ys with
 |[],[]=>true
 |x::r,y::s=>g x y&&DD g r s
 |_,_=>false
def IW (g:List C->List C->Bool) (xs:List (List C)) (ys:List (List C)) (i:Int):Prop:=0<=i/\i<=(xs.length:Int)/\xs.length=ys.length/\DD g (xs.drop i.toNat) (ys.drop i.toNat)=DD g xs ys
end Go
namespace Go.Sx
theorem lpA {I:Int->Prop} {xs:List (List C)} {B:Int->Prop} {E:Int->Prop} (h0:I 0) (hp:∀x,I x->0<=x) (hb:∀x,I x->0<=x->x<(xs.length:Int)->B x) (he:∀x,I x->¬x<(xs.length:Int)->E x):
 (∃(x:Int),I x/\0=x)/\∀(x:Int),I x->AnC x->(x<(xs.length:Int)->(0<=x/\x<(xs.length:Int))/\B x)/\(¬x<(xs.length:Int)->E x):=
 ⟨⟨0,h0,rfl⟩,λx h _=>⟨λhl=>⟨⟨hp x h,hl⟩,hb x h (hp x h) hl⟩,λhl=>he x h hl⟩⟩
theorem inS {x:Int} {e:List Sh} {xs:List (List C)} (hw:WL e xs) (h0:0<=x) (h:x<(xs.length:Int)):AnC (x+1):=by
 have:=hw.1;simp only[InR]; omega
theorem Aba {xs:List (List C)} {k:Int} (h0:0<=k) (h1:k<(xs.length:Int)):xs.drop k.toNat=rGet xs k::xs.drop (k+1).toNat:=by
 rw[Anq (show k.toNat<xs.length by omega),show(k+1).toNat=k.toNat+1 by omega];congr 1;simp[rGet,List.getD_eq_getElem?_getD,show k.toNat<xs.length by omega]
section
variable {f:List C->Bool} {xs:List (List C)} {i:Int}
theorem al0:E5 f xs 0:=⟨AlO _,by omega,rfl⟩
theorem alN (h:E5 f xs i) (hi:i<(xs.length:Int)) (hf:f (rGet xs i)=true):E5 f xs (i+1):=by
 obtain⟨h0,h1,h2⟩:=h;refine⟨by omega,by omega,?_⟩;rw[←h2,Aba h0 hi,Anb,hf,AlR]
theorem alB (h:E5 f xs i) (hi:i<(xs.length:Int)) (hf:f (rGet xs i)=false):false=xs.all f:=by
 obtain⟨h0,h1,h2⟩:=h;rw[←h2,Aba h0 hi,Anb,hf,AmS]
theorem alE (h:E5 f xs i) (hi:¬i<(xs.length:Int)):true=xs.all f:=by
 obtain⟨h0,h1,h2⟩:=h;rw[←h2,AlP (by omega)]; rfl
theorem ex0:DK f xs 0:=⟨AlO _,by omega,rfl⟩
theorem exN (h:DK f xs i) (hi:i<(xs.length:Int)) (hf:f (rGet xs i)=false):DK f xs (i+1):=by
 obtain⟨h0,h1,h2⟩:=h;refine⟨by omega,by omega,?_⟩;rw[←h2,Aba h0 hi,List.any_cons,hf,Bool.false_or]
theorem exB (h:DK f xs i) (hi:i<(xs.length:Int)) (hf:f (rGet xs i)=true):true=xs.any f:=by
 obtain⟨h0,h1,h2⟩:=h;rw[←h2,Aba h0 hi,List.any_cons,hf,Bool.true_or]
theorem exE (h:DK f xs i) (hi:¬i<(xs.length:Int)):false=xs.any f:=by
 obtain⟨h0,h1,h2⟩:=h;rw[←h2,AlP (by omega)]; rfl
end
section
variable {g:List C->List C->Bool} {xs ys:List (List C)} {i:Int}
theorem rlL:∀ {xs ys:List (List C)},¬xs.length=ys.length->false=DD g xs ys
 |[],[],h=>(h rfl).elim
 |[],_::_,_=>rfl
 |_::_,[],_=>rfl
 |x::r,y::s,h=>by
  have:=rlL (xs:=r) (ys:=s) (by simpa using h);simp only[DD,←this,AlQ]
theorem rl0 (h:xs.length=ys.length):IW g xs ys 0:=⟨AlO _,by omega,h,rfl⟩
theorem rlN (h:IW g xs ys i) (hi:i<(xs.length:Int)) (hf:g (rGet xs i) (rGet ys i)=true):IW g xs ys (i+1):=by
 obtain⟨h0,h1,h2,h3⟩:=h;refine⟨by omega,by omega,h2,?_⟩;rw[←h3,Aba h0 hi,Aba h0 (by omega),DD,hf,AlR]
theorem rlB (h:IW g xs ys i) (hi:i<(xs.length:Int)) (hf:g (rGet xs i) (rGet ys i)=false):false=DD g xs ys:=by
 obtain⟨h0,h1,h2,h3⟩:=h;rw[←h3,Aba h0 hi,Aba h0 (by omega),DD,hf,AmS]
theorem rlE (h:IW g xs ys i) (hi:¬i<(xs.length:Int)):true=DD g xs ys:=by
 obtain⟨h0,h1,h2,h3⟩:=h;rw[←h3,AlP (by omega),AlP (by omega)]; rfl
end
abbrev hA:List Sh:=[.int .i64,.int .i64,.int .i64,.int .i64]
abbrev hK:List Sh:=[.int .i64,.sl hW]
abbrev hMx:List Sh:=[.int .i64,.int .i64,.sl hI]
abbrev hLm:List Sh:=[.int .i64,.int .i64,.int .i64]
abbrev hQ:List Sh:=[.int .i64,.int .i64,.int .i64,.int .i64,.sl hW]
abbrev hY:List Sh:=[.int .i64,.int .i64,.int .i64,.int .i64,.int .i64,.int .i64,.int .i64,.int .i64,.int .i64,.int .i64,.sl hW,.int .i64,.int .i64,.int .i64,.int .i64,.sl hW,.int .i64,.int .i64,.int .i64]
abbrev hIn:List Sh:=[.int .i64,.sl hW,.int .i64,.int .i64,.sl hI,.int .i64,.int .i64,.int .i64,.int .i64]
abbrev hVo:List Sh:=[.int .i64,.sl hI,.int .i64,.int .u64,.int .i64,.int .i64,.int .i64,.int .i64,.int .i64,.int .i64,.int .i64,.int .i64,.int .i64,.int .i64,.sl hW,.int .i64,.int .i64,.int .i64,.int .i64,.sl hW,.int .i64,.int .i64,.int .i64,.int .i64,.int .i64,.sl hI,.int .i64,.int .i64,.int .i64,.int .i64]
abbrev hOu:List Sh:=[.int .u64,.str,.int .i64,.int .i64,.int .i64,.int .i64,.int .i64,.sl hX,.int .i64,.int .i64,.sl hI,.int .i64,.int .i64,.int .i64,.sl hS,.bool,.int .i64,.int .i64,.int .i64,.int .i64,.int .i64,.int .i64,.int .i64,.int .i64,.int .i64,.int .i64,.int .i64,.int .i64,.sl hW,.int .i64,.int .i64,.int .i64,.int .i64,.int .i64]
abbrev hE:List Sh:=[.int .i64,.int .i64,.int .i64,.sl hOu,.sl hVo]
end Go.Sx
namespace Go
open Go.Sx
def Ag (a b:Int):Int:=(Int.gcd a b:Int)
def Ai (n d:Int):Bool:=decide (1<=n/\1<=d/\n<=68719476736/\d<=68719476736/\Ag n d=1)
def BM (a b:Int):Int:=a*b/18446744073709551616
def BD (a b:Int):Int:=a*b % 18446744073709551616
def Ad (a:Int):Int:=if a=0 then 0 else(a.toNat.log2:Int)+1
def Ov (h l y:Int):Int:=(h*18446744073709551616+l)/y
def Md (h l y:Int):Int:=(h*18446744073709551616+l) % y
def CU (a b:Int):Int:=if a<1∨b<1 then 1 else if 68719476736<a/Ag a b∨68719476736<b/Ag a b then 2 else 0
def Aq (a b v:Int):Int:=if CU a b=0 then v/Ag a b else 0
theorem Ug (a b:Int):Ag b (a.tmod b)=Ag a b:=by
 unfold Ag Int.gcd;rw[Int.natAbs_tmod,Nat.gcd_comm b.natAbs,←Nat.gcd_rec,Nat.gcd_comm]
theorem U2 {a:Int} (h:0<a):Ag a 0=a:=by
 unfold Ag;rw[Int.gcd_zero_right]; omega
theorem J9 {a b:Int} (h:1<=a):1<=Ag a b/\Ag a b<=a:=by
 unfold Ag;have h1:0<Int.gcd a b:=Int.gcd_pos_of_ne_zero_left _ (by omega);have h2:(Int.gcd a b:Int)<=a:=Int.le_of_dvd (by omega) (Int.gcd_dvd_left ..);omega
theorem Yb {a b:Int} (h:1<=b):Ag a b<=b:=by
 unfold Ag;exact Int.le_of_dvd (by omega) (Int.gcd_dvd_right ..)
theorem NH {a b:Int} (h:1<=a) (h':1<=b):1<=a/Ag a b/\a/Ag a b<=a/\1<=b/Ag a b/\b/Ag a b<=b:=by
 have p:=J9 (b:=b) h;have q:=Yb (a:=a) h';refine⟨?_,Amy _ (by omega),?_,Amy _ (by omega)⟩
 · exact(Am9 (by omega)).2 (by omega)
 · exact(Am9 (by omega)).2 (by omega)
theorem UL {a b:Int} (h:1<=a):Ag (a/Ag a b) (b/Ag a b)=1:=by
 have h1:0<Int.gcd a b:=Int.gcd_pos_of_ne_zero_left _ (by omega);unfold Ag;have:=Int.gcd_ediv_gcd_ediv_gcd h1;rw[this]; rfl
theorem X9 (a b:Nat) (ha:a<18446744073709551616) (hb:b<18446744073709551616):iAnd .u64 (a:Int) (b:Int)=((a&&&b:Nat):Int):=by
 show IntKind.u64.wrap _=_;rw[IntKind.wrap_u64];have h1:(BitVec.ofInt IntKind.u64.bits (a:Int)&&&BitVec.ofInt IntKind.u64.bits (b:Int)).toNat=a&&&b:=by
  show(BitVec.ofInt 64 (a:Int)&&&BitVec.ofInt 64 (b:Int)).toNat=_;rw[BitVec.toNat_and,BitVec.ofInt_natCast,BitVec.ofInt_natCast,BitVec.toNat_ofNat,BitVec.toNat_ofNat,Nat.mod_eq_of_lt ha,Nat.mod_eq_of_lt hb]
 rw[h1];have:=Nat.and_le_left (n:=a) (m:=b);omega
theorem Yv (a b:Nat) (ha:a<18446744073709551616) (hb:b<18446744073709551616):iOr .u64 (a:Int) (b:Int)=((a|||b:Nat):Int):=by
 show IntKind.u64.wrap _=_;rw[IntKind.wrap_u64];have h1:(BitVec.ofInt IntKind.u64.bits (a:Int)|||BitVec.ofInt IntKind.u64.bits (b:Int)).toNat=a|||b:=by
  show(BitVec.ofInt 64 (a:Int)|||BitVec.ofInt 64 (b:Int)).toNat=_;rw[BitVec.toNat_or,BitVec.ofInt_natCast,BitVec.ofInt_natCast,BitVec.toNat_ofNat,BitVec.toNat_ofNat,Nat.mod_eq_of_lt ha,Nat.mod_eq_of_lt hb]
 rw[h1];have:=Nat.or_lt_two_pow (n:=64) (x:=a) (y:=b) (by simpa using ha) (by simpa using hb);have e:(2:Nat) ^ 64=18446744073709551616:=by decide
 omega
theorem QK {x:Int} (h0:0<=x) (h1:x<=18446744073709551615):iAnd .u64 x 4294967295=x % 4294967296:=by
 obtain⟨a,rfl⟩:=Amf h0;have:=X9 a 4294967295 (by omega) (by omega);have e:=Nat.and_two_pow_sub_one_eq_mod a 32;simp only[show(2:Nat) ^ 32=4294967296 by decide]at e;rw[show(4294967296-1:Nat)=4294967295 by decide]at e;rw[e]at this;rw[show((4294967295:Nat):Int)=4294967295 from rfl]at this;rw[this];omega
theorem BH {x:Int} (h0:0<=x) (h1:x<=18446744073709551615):Aa3 .u64 x=x:=by show IntKind.u64.wrap x=x; rw[IntKind.wrap_u64]; omega
theorem L6 (x:Int):Aa3 .u64 x=x % 18446744073709551616:=by show IntKind.u64.wrap x=_; rw[IntKind.wrap_u64]
theorem RP (x:Int):iShr x 32=x/4294967296:=by
 show x.fdiv (2 ^ (32:Int).toNat)=_;rw[AmF _ (by decide)];rfl
theorem WJ {x y:Int} (hx:0<=x) (hx':x<=18446744073709551615) (hy:0<=y) (hy':y<=18446744073709551615):
 0<=(x % 4294967296)*(y % 4294967296)/\(x % 4294967296)*(y % 4294967296)<18446744073709551616/\0<=(x/4294967296)*(y % 4294967296)/\(x/4294967296)*(y % 4294967296)<18446744073709551616/\
  (x/4294967296)*(y % 4294967296)+(x % 4294967296)*(y % 4294967296)/4294967296<18446744073709551616/\0<=(x % 4294967296)*(y/4294967296)/\(x % 4294967296)*(y/4294967296)<18446744073709551616/\
  ((x/4294967296)*(y % 4294967296)+(x % 4294967296)*(y % 4294967296)/4294967296) % 4294967296+(x % 4294967296)*(y/4294967296)<18446744073709551616/\
  0<=(x/4294967296)*(y/4294967296)/\(x/4294967296)*(y/4294967296)<18446744073709551616/\0<=x*y/18446744073709551616/\x*y/18446744073709551616<18446744073709551616/\
  (x/4294967296)*(y/4294967296)+((x/4294967296)*(y % 4294967296)+(x % 4294967296)*(y % 4294967296)/4294967296)/4294967296+(((x/4294967296)*(y % 4294967296)+(x % 4294967296)*(y % 4294967296)/4294967296) % 4294967296+(x % 4294967296)*(y/4294967296))/4294967296=x*y/18446744073709551616:=by
 obtain⟨a,rfl⟩:=Amf hx;obtain⟨b,rfl⟩:=Amf hy;have:=Go.Lib.mul64_hi a b (by omega) (by omega);have q1:=Go.Lib.half_mul_le (a:=a/4294967296) (b:=b/4294967296) (by omega) (by omega);have q2:=Go.Lib.half_mul_le (a:=a/4294967296) (b:=b % 4294967296) (by omega) (by omega);have q3:=Go.Lib.half_mul_le (a:=a % 4294967296) (b:=b/4294967296) (by omega) (by omega);have q4:=Go.Lib.half_mul_le (a:=a % 4294967296) (b:=b % 4294967296) (by omega) (by omega);have e1:((a:Int) % 4294967296)=((a % 4294967296:Nat):Int):=by omega
 have e2:((b:Int) % 4294967296)=((b % 4294967296:Nat):Int):=by omega
 have e3:((a:Int)/4294967296)=((a/4294967296:Nat):Int):=by omega
 have e4:((b:Int)/4294967296)=((b/4294967296:Nat):Int):=by omega
 rw[e1,e2,e3,e4,←Anh,←Anh,←Anh,←Anh,←Anh];generalize (a/4294967296)*(b/4294967296)=p at*;generalize (a/4294967296)*(b % 4294967296)=q at*;generalize (a % 4294967296)*(b/4294967296)=r at*;generalize (a % 4294967296)*(b % 4294967296)=s at*;generalize a*b=z at*;omega
end Go
namespace Go.Sx
def A200 (p:Int) (q:Int):FuncId->Nat->LoopAnn:=λ_ _=> .inv (Int×Int) (λx=>0<x.1/\0<=x.2/\Ag x.1 x.2=Ag p q) (λx=>[(0,.int .i64 x.1),(1,.int .i64 x.2)]) (λ_=>[]) [] [0,1,4,6] (λx=>x.2.toNat)
theorem v200 (p:Int) (q:Int):AnC p/\AnC q->0<p/\0<=q->(∃(x:Int×Int),(0<x.1/\0<=x.2/\Ag x.1 x.2=Ag p q)/\p=x.1/\q=x.2)/\∀(x:Int×Int),0<x.1/\0<=x.2/\Ag x.1 x.2=Ag p q->AnC x.1/\AnC x.2->Cn (bNe x.2 0) (pNe x.2 0/\∃(y:Int×Int),(0<y.1/\0<=y.2/\Ag y.1 y.2=Ag p q)/\x.2=y.1/\iRem x.1 x.2=y.2/\nLt y.2.toNat x.2.toNat) (x.1=Ag p q):=by
 intro hw hp;simp only[Cn_iff,Abc,true_and];refine⟨⟨(p,q),⟨hp.1,hp.2,rfl⟩,rfl,rfl⟩,λx hx _=>⟨λh=> ?_,λh=> ?_⟩⟩
 · have hne:x.2≠0:=by simpa using h
   have hb:=AiG x.1 (b:=x.2) (by omega);have h0:0<=x.1.tmod x.2:=Int.tmod_nonneg _ (by omega);exact⟨hne,(x.2,x.1.tmod x.2),⟨by simp only; omega,h0,by rw[Ug]; exact hx.2.2⟩,rfl,rfl,by simp only; omega⟩
 · have h0:x.2=0:=by simpa using h
   rw[←hx.2.2,h0,U2 hx.1]
def r200:Cr PR:=K [] 200 6 {ps:=[(false,hI),(false,hI)],rs:=[(false,hI)],pre:=λa=>0<(AnF a)/\0<=(AnG a),out:=λa=>[[.i (Ag (AnF a) (AnG a))]]} (λa=>A200 (AnF a) (AnG a)) λa=>Y (v200 (AnF a) (AnG a))
def A159 (p:Int) (q:Int):FuncId->Nat->LoopAnn:=λ_ _=> .inv (Int×Int) (λx=>0<x.1/\0<=x.2/\Ag x.1 x.2=Ag p q) (λx=>[(0,.int .i64 x.1),(1,.int .i64 x.2)]) (λ_=>[]) [] [0,1,4,6] (λx=>x.2.toNat)
theorem v159 (p:Int) (q:Int):AnC p/\AnC q->0<p/\0<=q->(∃(x:Int×Int),(0<x.1/\0<=x.2/\Ag x.1 x.2=Ag p q)/\p=x.1/\q=x.2)/\∀(x:Int×Int),0<x.1/\0<=x.2/\Ag x.1 x.2=Ag p q->AnC x.1/\AnC x.2->Cn (bNe x.2 0) (pNe x.2 0/\∃(y:Int×Int),(0<y.1/\0<=y.2/\Ag y.1 y.2=Ag p q)/\x.2=y.1/\iRem x.1 x.2=y.2/\nLt y.2.toNat x.2.toNat) (x.1=Ag p q):=by
 intro hw hp;simp only[Cn_iff,Abc,true_and];refine⟨⟨(p,q),⟨hp.1,hp.2,rfl⟩,rfl,rfl⟩,λx hx _=>⟨λh=> ?_,λh=> ?_⟩⟩
 · have hne:x.2≠0:=by simpa using h
   have hb:=AiG x.1 (b:=x.2) (by omega);have h0:0<=x.1.tmod x.2:=Int.tmod_nonneg _ (by omega);exact⟨hne,(x.2,x.1.tmod x.2),⟨by simp only; omega,h0,by rw[Ug]; exact hx.2.2⟩,rfl,rfl,by simp only; omega⟩
 · have h0:x.2=0:=by simpa using h
   rw[←hx.2.2,h0,U2 hx.1]
def r159:Cr PR:=K [] 159 6 {ps:=[(false,hI),(false,hI)],rs:=[(false,hI)],pre:=λa=>0<(AnF a)/\0<=(AnG a),out:=λa=>[[.i (Ag (AnF a) (AnG a))]]} (λa=>A159 (AnF a) (AnG a)) λa=>Y (v159 (AnF a) (AnG a))
theorem v133 (n:Int) (d:Int):AnC n/\AnC d->Cn (bLe 1 n) (Cn (bLe 1 d) (Cn (bLe n 68719476736) (Cn (bLe d 68719476736) ((0<n/\0<=d)/\(AnC (Ag n d)->bEq (Ag n d) 1=Ai n d)) (false=Ai n d)) (false=Ai n d)) (false=Ai n d)) (false=Ai n d):=by
 intro hw;simp only[Cn_iff,Abc,true_and];simp only[D,E,Ai]
 repeat' (first|apply And.intro|intro _)
 all_goals (first|omega|(simp only[decide_eq_decide]; omega)|(symm; simp only[AlD]; omega))
def r133:Cr PR:=K0 [r200] 133 6 {ps:=[(true,hII)],rs:=[(false,[.bool])],out:=λa=>[[.b (Ai (AnF a) (AnH a))]]} U λa=>Y (v133 (AnF a) (AnH a))
theorem v143 (n:Int) (d:Int):AnC n/\AnC d->Cn (bLe 1 n) (Cn (bLe 1 d) (Cn (bLe n 68719476736) (Cn (bLe d 68719476736) ((0<n/\0<=d)/\(AnC (Ag n d)->bEq (Ag n d) 1=Ai n d)) (false=Ai n d)) (false=Ai n d)) (false=Ai n d)) (false=Ai n d):=by
 intro hw;simp only[Cn_iff,Abc,true_and];simp only[D,E,Ai]
 repeat' (first|apply And.intro|intro _)
 all_goals (first|omega|(simp only[decide_eq_decide]; omega)|(symm; simp only[AlD]; omega))
def r143:Cr PR:=K0 [r159] 143 6 {ps:=[(true,hII)],rs:=[(false,[.bool])],out:=λa=>[[.b (Ai (AnF a) (AnH a))]]} U λa=>Y (v143 (AnF a) (AnH a))
theorem v202 (x:Int) (y:Int):AnD x/\AnD y->True->pSh 64 32/\pSh 64 32/\pSh 64 32/\pSh 64 32/\pSh 64 32/\Aa3 .u64 (iAdd (Aa3 .u64 (iAdd (Aa3 .u64 (iMul (iShr x 32) (iShr y 32))) (iShr (Aa3 .u64 (iAdd (Aa3 .u64 (iMul (iShr x 32) (iAnd IntKind.u64 y 4294967295))) (iShr (Aa3 .u64 (iMul (iAnd IntKind.u64 x 4294967295) (iAnd IntKind.u64 y 4294967295))) 32))) 32))) (iShr (Aa3 .u64 (iAdd (iAnd IntKind.u64 (Aa3 .u64 (iAdd (Aa3 .u64 (iMul (iShr x 32) (iAnd IntKind.u64 y 4294967295))) (iShr (Aa3 .u64 (iMul (iAnd IntKind.u64 x 4294967295) (iAnd IntKind.u64 y 4294967295))) 32))) 4294967295) (Aa3 .u64 (iMul (iAnd IntKind.u64 x 4294967295) (iShr y 32))))) 32))=BM x y/\Aa3 .u64 (iMul x y)=BD x y:=by
 intro hw hp;simp only[Wfs,Wf,InR,and_true]at hw;have c:pSh 64 32:=by decide
 refine⟨c,c,c,c,c,?_⟩;have m:=WJ (x:=x) (y:=y) (by omega) (by omega) (by omega) (by omega);simp only[RP,iMul,iAdd];rw[QK (x:=x) (by omega) (by omega),QK (x:=y) (by omega) (by omega)];rw[BH (x:=x % 4294967296*(y % 4294967296)) (by omega) (by omega),BH (x:=x/4294967296*(y % 4294967296)) (by omega) (by omega)];rw[BH (x:=x/4294967296*(y % 4294967296)+x % 4294967296*(y % 4294967296)/4294967296) (by omega) (by omega)];rw[BH (x:=x % 4294967296*(y/4294967296)) (by omega) (by omega),BH (x:=x/4294967296*(y/4294967296)) (by omega) (by omega)];rw[QK (by omega) (by omega)];rw[BH (x:=(x/4294967296*(y % 4294967296)+x % 4294967296*(y % 4294967296)/4294967296) % 4294967296+x % 4294967296*(y/4294967296)) (by omega) (by omega)];rw[BH (x:=x/4294967296*(y/4294967296)+(x/4294967296*(y % 4294967296)+x % 4294967296*(y % 4294967296)/4294967296)/4294967296) (by omega) (by omega)];rw[BH (x:=x/4294967296*(y/4294967296)+(x/4294967296*(y % 4294967296)+x % 4294967296*(y % 4294967296)/4294967296)/4294967296+_) (by omega) (by omega)];rw[L6];unfold BM BD;simp only[m.2.2.2.2.2.2.2.2.2.2.2.2];simp
def r202:Cr PR:=Kw (λ_=>true) [] 202 6 {ps:=[(false,[.int .u64]),(false,[.int .u64])],rs:=[(false,[.int .u64]),(false,[.int .u64])],out:=λa=>[[.i (BM (AnF a) (AnG a))],[.i (BD (AnF a) (AnG a))]]} U λa=>Y (v202 (AnF a) (AnG a))
end Go.Sx

namespace Go
open Go.Sx
structure H7 (a u D q r:Int):Prop where
 q0:0<=q
 r0:0<=r
 r1:r<4294967296
 q1:q<=4294967297
 e:a=q*(D/4294967296)+r
 le:(a*4294967296+u)/D<=q
theorem O5 (D q:Int):q*D=q*(D/4294967296)*4294967296+q*(D % 4294967296):=by
 have h:D=D/4294967296*4294967296+D % 4294967296:=by omega
 have h2:q*(D/4294967296*4294967296+D % 4294967296)=q*(D/4294967296)*4294967296+q*(D % 4294967296):=by rw[Int.mul_add,Am4]
 rw[←h]at h2;exact h2
theorem TI {N D q:Int} (hD:0<D) (h:q*D<=N):q<=N/D:=(Am9 hD).2 h
theorem QM {N D q:Int} (hD:0<D) (h:N<q*D):N/D<q:=Int.ediv_lt_of_lt_mul hD h
theorem H7.stop {a u D q r:Int} (h:H7 a u D q r) (hD:0<D) (hc:q*(D % 4294967296)<=4294967296*r+u):q=(a*4294967296+u)/D:=by
 have m:=O5 D q;have e:=h.e;have l:=h.le;generalize q*(D/4294967296)=p at*;have:=TI (N:=a*4294967296+u) (D:=D) (q:=q) hD (by omega);omega
theorem Qw {a u D:Int} (hD:0<D) (ha:a<D) (hu:u<4294967296):(a*4294967296+u)/D<4294967296:=
 QM hD (by omega)
theorem H7.bd {a u D q r:Int} (h:H7 a u D q r) (hD1:9223372036854775808<=D) (hD2:D<=18446744073709551615):0<=q*(D % 4294967296)/\q*(D % 4294967296)<=18446744073709551615:=by
 have:=Aa8 (x:=q) (X:=4294967297) (y:=D % 4294967296) (Y:=4294967295) h.q0 h.q1 (by omega) (by omega);omega
theorem H7.dec {a u D q r:Int} (h:H7 a u D q r) (hD1:9223372036854775808<=D) (hD2:D<=18446744073709551615) (ha:0<=a) (ha':a<D) (hu:0<=u) (hu':u<4294967296)
 (hc:4294967296<=q∨4294967296*r+u<q*(D % 4294967296)):
 1<=q/\0<=r+D/4294967296/\r+D/4294967296<=18446744073709551615/\(r+D/4294967296<4294967296->H7 a u D (q-1) (r+D/4294967296))/\(4294967296<=r+D/4294967296->q-1=(a*4294967296+u)/D):=by
 have hs:=Qw (a:=a) (u:=u) (D:=D) (by omega) ha' hu';have hn:0<=(a*4294967296+u)/D:=Al8 (by omega) (by omega);have hlt:(a*4294967296+u)/D<q:=by
  rcases hc with hc|hc
  · omega
  · refine QM (by omega) ?_;have m:=O5 D q;have e:=h.e;generalize q*(D/4294967296)=p at*;omega
 have e1:a=(q-1)*(D/4294967296)+(r+D/4294967296):=by
  rw[Int.sub_mul,AmR]; have:=h.e; omega
 have q1:q-1<=4294967296:=by have:=h.q1; omega
 have r0:=h.r0;have r1:=h.r1;refine⟨by omega,by omega,by omega,λhr=>⟨by omega,by omega,hr,by omega,e1,by omega⟩,λhr=> ?_⟩;have m:=O5 D (q-1);have b:=Aa8 (x:=q-1) (X:=4294967296) (y:=D % 4294967296) (Y:=4294967295) (by omega) q1 (by omega) (by omega);generalize (q-1)*(D/4294967296)=p at*;have:=TI (N:=a*4294967296+u) (D:=D) (q:=q-1) (by omega) (by omega);omega
theorem H7.init {a u D:Int} (hD1:9223372036854775808<=D) (hD2:D<=18446744073709551615) (ha:0<=a) (ha':a<D) (hu:0<=u) (hu':u<4294967296):H7 a u D (a/(D/4294967296)) (a-a/(D/4294967296)*(D/4294967296)):=by
 have hv:0<D/4294967296:=by omega
 have d1:=Ann a (D/4294967296);have d2:=AmB a (show D/4294967296≠0 by omega);have d3:=Aml a hv;rw[Amo]at d1;have q0:0<=a/(D/4294967296):=Al8 ha (by omega);refine⟨q0,by omega,by omega,?_,by omega,?_⟩
 · have:a/(D/4294967296)<4294967298:=QM hv (by omega);omega
 · have m:=O5 D (a/(D/4294967296)+1);have b:0<=(a/(D/4294967296)+1)*(D % 4294967296):=Al1 (by omega) (by omega);have m2:(a/(D/4294967296)+1)*(D/4294967296)=a/(D/4294967296)*(D/4294967296)+D/4294967296:=by rw[Amt,AmR]
   rw[m2]at m;have:=QM (N:=a*4294967296+u) (D:=D) (q:=a/(D/4294967296)+1) (by omega) (by omega);omega
theorem QV {y:Int} (h0:1<=y) (h1:y<=18446744073709551615):1<=Ad y/\Ad y<=64/\9223372036854775808<=y*2 ^ (64-Ad y).toNat/\y*2 ^ (64-Ad y).toNat<=18446744073709551615:=by
 obtain⟨a,rfl⟩:=Amf (show 0<=y by omega);have ha:a≠0:=by omega
 have l1:=Nat.log2_self_le ha;have l2:=Nat.lt_log2_self (n:=a);have l3:a.log2<64:=(Nat.log2_lt ha).2 (by omega);have e:Ad (a:Int)=(a.log2:Int)+1:=by unfold Ad; rw[if_neg (by omega)]; simp
 have e2:(64-Ad (a:Int)).toNat=63-a.log2:=by omega
 rw[e2,e];have p1:(2:Nat) ^ a.log2*2 ^ (63-a.log2)=9223372036854775808:=by rw[←Nat.pow_add,show a.log2+(63-a.log2)=63 by omega]
 have p2:(2:Nat) ^ (a.log2+1)*2 ^ (63-a.log2)=18446744073709551616:=by rw[←Nat.pow_add,show a.log2+1+(63-a.log2)=64 by omega]
 have k1:=AmT (2 ^ (63-a.log2)) l1;have k2:a*2 ^ (63-a.log2)<2 ^ (a.log2+1)*2 ^ (63-a.log2):=Nat.mul_lt_mul_of_pos_right l2 (Nat.two_pow_pos _);have e3:(a:Int)*2 ^ (63-a.log2)=((a*2 ^ (63-a.log2):Nat):Int):=by rw[Anh,Int.natCast_pow]; rfl
 rw[e3];omega
theorem Y1 {a:Nat} (k:Nat) (h:2 ^ k<=a):a.log2=k+(a/2 ^ k).log2:=by
 have hp:=Nat.two_pow_pos k;have h1:1<=a/2 ^ k:=(Nat.le_div_iff_mul_le hp).2 (by omega);have h2:=Nat.log2_self_le (n:=a/2 ^ k) (by omega);have h3:=Nat.lt_log2_self (n:=a/2 ^ k);rw[Nat.log2_eq_iff (by omega)];constructor
 · rw[Nat.pow_add,Nat.mul_comm];exact(Nat.le_div_iff_mul_le hp).1 h2
 · rw[show k+(a/2 ^ k).log2+1=(a/2 ^ k).log2+1+k by omega,Nat.pow_add];exact(Nat.div_lt_iff_lt_mul hp).1 h3
theorem QU {x:Int} (k:Nat) (h:(2:Int) ^ k<=x):Ad x=k+Ad (x/2 ^ k):=by
 obtain⟨a,rfl⟩:=Amf (show 0<=x from Int.le_trans (Int.le_of_lt (Int.pow_pos (by decide))) h);have hp:=Nat.two_pow_pos k;have e:(2:Int) ^ k=((2 ^ k:Nat):Int):=by rw[Int.natCast_pow]; rfl
 rw[e]at h ⊢;have ha:2 ^ k<=a:=by omega
 have h1:1<=a/2 ^ k:=(Nat.le_div_iff_mul_le hp).2 (by omega);have e2:(a:Int)/((2 ^ k:Nat):Int)=((a/2 ^ k:Nat):Int):=rfl;rw[e2];unfold Ad;rw[if_neg (by omega),if_neg (by omega),AmM,AmM,Y1 k ha];omega
def Ox (y:Int):Int:=2 ^ (64-Ad y).toNat
def BB (y:Int):Int:=y*Ox y
def JX (h l y:Int):Int:=h*Ox y+l/2 ^ (64- (64-Ad y)).toNat
def EL (l y:Int):Int:=l*Ox y % 18446744073709551616
def Hl (h l y:Int):Int:=(JX h l y*4294967296+EL l y/4294967296)/BB y
def MS (h l y:Int):Int:=JX h l y*4294967296+EL l y/4294967296-Hl h l y*BB y
def MW (h l y:Int):Int:=(MS h l y*4294967296+EL l y % 4294967296)/BB y
def NY (a u d q r:Int):Prop:=H7 a u d q r
theorem Zu {a b:Int} {i:Nat} (ha:0<=a) (hb:0<=b) (hb':b<2 ^ i) (h:a*2 ^ i+b<=18446744073709551615):iOr .u64 (a*2 ^ i) b=a*2 ^ i+b:=by
 obtain⟨x,rfl⟩:=Amf ha;obtain⟨y,rfl⟩:=Amf hb;have e:(2:Int) ^ i=((2 ^ i:Nat):Int):=by rw[Int.natCast_pow]; rfl
 rw[e]at hb' h ⊢;have e2:(x:Int)*((2 ^ i:Nat):Int)=((x*2 ^ i:Nat):Int):=by rw[Anh]
 rw[e2]at h ⊢;rw[Yv _ _ (by omega) (by omega)];have:=Nat.shiftLeft_add_eq_or_of_lt (i:=i) (b:=y) (by omega) x;rw[Nat.shiftLeft_eq]at this;rw[←this]; simp
structure Aat (h l y:Int):Prop where
 s0:0<=64-Ad y
 s1:64-Ad y<=63
 e0:Aa3 .u64 (64-Ad y)=64-Ad y
 e1:Aa3 .u64 (iShl y (64-Ad y))=BB y
 e2:iOr .u64 (Aa3 .u64 (iShl h (64-Ad y))) (iShr l (Aa3 .u64 (iSub 64 (64-Ad y))))=JX h l y
 e3:Aa3 .u64 (iShl l (64-Ad y))=EL l y
 e4:Aa3 .u64 (iSub 64 (64-Ad y))=64- (64-Ad y)
 d0:9223372036854775808<=BB y
 d1:BB y<=18446744073709551615
 u0:0<=JX h l y
 u1:JX h l y<BB y
 b0:0<=EL l y
 b1:EL l y<18446744073709551616
 p0:1<=Ox y
 eq:(h*18446744073709551616+l)*Ox y=JX h l y*18446744073709551616+EL l y
theorem WO {h l y:Int} (hh:0<=h) (hl:0<=l) (hl':l<=18446744073709551615) (hy:y<=18446744073709551615) (hlt:h<y):Aat h l y:=by
 have L:=QV (y:=y) (by omega) hy;have e0:Aa3 .u64 (64-Ad y)=64-Ad y:=BH (by omega) (by omega);have e4:Aa3 .u64 (iSub 64 (64-Ad y))=64- (64-Ad y):=BH (by simp only[iSub]; omega) (by simp only[iSub]; omega);have hP:(2:Int) ^ (64-Ad y).toNat*2 ^ (64- (64-Ad y)).toNat=18446744073709551616:=by
  rw[←Int.pow_add,show(64-Ad y).toNat+(64- (64-Ad y)).toNat=64 by omega]; rfl
 have p0:(0:Int)<2 ^ (64-Ad y).toNat:=Int.pow_pos (by decide);have p1:(0:Int)<2 ^ (64- (64-Ad y)).toNat:=Int.pow_pos (by decide);have eD:BB y=y*2 ^ (64-Ad y).toNat:=rfl;have eU:JX h l y=h*2 ^ (64-Ad y).toNat+l/2 ^ (64- (64-Ad y)).toNat:=rfl;have eB:EL l y=l*2 ^ (64-Ad y).toNat % 18446744073709551616:=rfl;have eP:Ox y=2 ^ (64-Ad y).toNat:=rfl;have hq:l/2 ^ (64- (64-Ad y)).toNat<2 ^ (64-Ad y).toNat:=Int.ediv_lt_of_lt_mul p1 (by rw[hP]; omega);have hq0:0<=l/2 ^ (64- (64-Ad y)).toNat:=Al8 hl (by omega);have hh1:h*2 ^ (64-Ad y).toNat+2 ^ (64-Ad y).toNat<=y*2 ^ (64-Ad y).toNat:=by
  have:=AlS (show h+1<=y by omega) (Int.le_of_lt p0);rw[Amt,AmR]at this; exact this
 have hh0:0<=h*2 ^ (64-Ad y).toNat:=Al1 hh (by omega);have m1:=Ann l (2 ^ (64- (64-Ad y)).toNat);have m2:=AmB l (show(2:Int) ^ (64- (64-Ad y)).toNat≠0 by omega);have m3:=Aml l p1;have k1:l*2 ^ (64-Ad y).toNat=l/2 ^ (64- (64-Ad y)).toNat*18446744073709551616+l % 2 ^ (64- (64-Ad y)).toNat*2 ^ (64-Ad y).toNat:=by
  rw[←hP];generalize (2:Int) ^ (64-Ad y).toNat=p at*;generalize (2:Int) ^ (64- (64-Ad y)).toNat=p' at*;have:(l % p'+p'*(l/p'))*p=l*p:=by rw[m1]
  rw[←this,Amt,Int.add_comm (l % p'*p),Amo p' (l/p'),Am4,Amo p' p]
 have k2:0<=l % 2 ^ (64- (64-Ad y)).toNat*2 ^ (64-Ad y).toNat:=Al1 m2 (by omega);have k3:l % 2 ^ (64- (64-Ad y)).toNat*2 ^ (64-Ad y).toNat<18446744073709551616:=by
  rw[←hP,Amo (2 ^ (64-Ad y).toNat)];exact Int.mul_lt_mul_of_pos_right m3 p0
 have eq:(h*18446744073709551616+l)*Ox y=JX h l y*18446744073709551616+EL l y:=by
  rw[eB,k1,eU,eP,Amt,k1,Amt,Am5 h 18446744073709551616];omega
 have e1:Aa3 .u64 (iShl y (64-Ad y))=BB y:=BH (by simp only[iShl]; omega) (by simp only[iShl]; omega);have ew:Aa3 .u64 (iShl h (64-Ad y))=h*2 ^ (64-Ad y).toNat:=BH (by simp only[iShl]; omega) (by simp only[iShl]; omega);refine⟨by omega,by omega,e0,e1,?_,L6 _,e4,by omega,by omega,by omega,by omega,by omega,by omega,by omega,eq⟩;rw[e4,ew];have es:iShr l (64- (64-Ad y))=l/2 ^ (64- (64-Ad y)).toNat:=AmF _ (by omega);rw[es,eU];exact Zu hh hq0 hq (by omega)
theorem X4 {H y p Q R:Int} (hp:1<=p) (hy:1<=y) (e:H*p=Q*(y*p)+R) (r0:0<=R) (r1:R<y*p):H/y=Q/\H % y=R/p:=by
 have e2:R=(H-Q*y)*p:=by rw[Int.sub_mul,e,Am4]; omega
 have e3:R/p=H-Q*y:=by rw[e2,Ani _ (by omega)]
 have h0:0<=H-Q*y:=by rw[←e3]; exact Al8 r0 (by omega)
 have h1:H-Q*y<y:=by rw[←e3]; exact Int.ediv_lt_of_lt_mul (by omega) r1
 have h2:=(Anr (a:=H) (b:=y) (r:=H-Q*y) (q:=Q) (by omega)).2 ⟨by rw[Amo y]; omega,h0,h1⟩;rw[e3]; exact h2
theorem Uc {N D:Int} (hD:0<D):0<=N-N/D*D/\N-N/D*D<D:=by
 have d1:=Ann N D;have d2:=AmB N (show D≠0 by omega);have d3:=Aml N hD;rw[Amo]at d1;omega
end Go
namespace Go.Sx
def m252_0:ByteArray:= {data:= {toList:=([0,1,2,2,3,3,3,3,4,4,4,4,4,4,4,4,5,5,5,5,5,5,5,5,5,5,5,5,5,5,5,5,6,6,6,6,6,6,6,6,6,6,6,6,6,6,6,6,6,6,6,6,6,6,6,6,6,6,6,6,6,6,6,6].append [7,7,7,7,7,7,7,7,7,7,7,7,7,7,7,7,7,7,7,7,7,7,7,7,7,7,7,7,7,7,7,7,7,7,7,7,7,7,7,7,7,7,7,7,7,7,7,7,7,7,7,7,7,7,7,7,7,7,7,7,7,7,7,7]).append ([8,8,8,8,8,8,8,8,8,8,8,8,8,8,8,8,8,8,8,8,8,8,8,8,8,8,8,8,8,8,8,8,8,8,8,8,8,8,8,8,8,8,8,8,8,8,8,8,8,8,8,8,8,8,8,8,8,8,8,8,8,8,8,8].append [8,8,8,8,8,8,8,8,8,8,8,8,8,8,8,8,8,8,8,8,8,8,8,8,8,8,8,8,8,8,8,8,8,8,8,8,8,8,8,8,8,8,8,8,8,8,8,8,8,8,8,8,8,8,8,8,8,8,8,8,8,8,8,8])}}
theorem v252 (x:Int):AnD x->True->Cn (bLe 4294967296 x) (pSh 64 32/\Cn (bLe 65536 (iShr x 32)) (pSh 64 16/\Cn (bLe 256 (iShr (iShr x 32) 16)) (pSh 64 8/\pIn 0 (Abs m252_0) (Aa3 .u8 (iShr (iShr (iShr x 32) 16) 8))/\Aa3 .i64 (iAdd (32+16+8) (sAt m252_0 (Aa3 .u8 (iShr (iShr (iShr x 32) 16) 8))))=Ad x) (pIn 0 (Abs m252_0) (Aa3 .u8 (iShr (iShr x 32) 16))/\Aa3 .i64 (iAdd (32+16) (sAt m252_0 (Aa3 .u8 (iShr (iShr x 32) 16))))=Ad x)) (Cn (bLe 256 (iShr x 32)) (pSh 64 8/\pIn 0 (Abs m252_0) (Aa3 .u8 (iShr (iShr x 32) 8))/\Aa3 .i64 (iAdd (32+8) (sAt m252_0 (Aa3 .u8 (iShr (iShr x 32) 8))))=Ad x) (pIn 0 (Abs m252_0) (Aa3 .u8 (iShr x 32))/\Aa3 .i64 (iAdd 32 (sAt m252_0 (Aa3 .u8 (iShr x 32))))=Ad x))) (Cn (bLe 65536 x) (pSh 64 16/\Cn (bLe 256 (iShr x 16)) (pSh 64 8/\pIn 0 (Abs m252_0) (Aa3 .u8 (iShr (iShr x 16) 8))/\Aa3 .i64 (iAdd (0+16+8) (sAt m252_0 (Aa3 .u8 (iShr (iShr x 16) 8))))=Ad x) (pIn 0 (Abs m252_0) (Aa3 .u8 (iShr x 16))/\Aa3 .i64 (iAdd (0+16) (sAt m252_0 (Aa3 .u8 (iShr x 16))))=Ad x)) (Cn (bLe 256 x) (pSh 64 8/\pIn 0 (Abs m252_0) (Aa3 .u8 (iShr x 8))/\Aa3 .i64 (iAdd (0+8) (sAt m252_0 (Aa3 .u8 (iShr x 8))))=Ad x) (pIn 0 (Abs m252_0) (Aa3 .u8 x)/\Aa3 .i64 (iAdd 0 (sAt m252_0 (Aa3 .u8 x)))=Ad x))):=by
 intro hw hp;simp only[Cn_iff,Abc,true_and];simp only[Wfs,Wf,InR,and_true]at hw;have T:∀v:Int,0<=v->v<=255->sAt (m252_0) v=Ad v/\pIn 0 (Abs (m252_0)) v:=λv h0 h1=>by
  have t:∀n:Fin 256,sAt (m252_0) ((n.val:Nat):Int)=Ad ((n.val:Nat):Int):=by decide+kernel
  have s:Abs (m252_0)=256:=by decide+kernel
  refine⟨?_,h0,by rw[s]; omega⟩;have:=t ⟨v.toNat,by omega⟩;simp only[Amc h0]at this;exact this
 generalize (m252_0:ByteArray)=tb at T ⊢;have W8:∀e:Int,0<=e->e<=255->Aa3 .u8 e=e:=λe h0 h1=>InR.wrap (by simp only[InR]; omega);have B:∀v:Int,0<=v->v<=255->0<=Ad v/\Ad v<=64:=λv h0 h1=>by
  by_cases hv:v=0
  · subst hv; decide
  · have:=QV (y:=v) (by omega) (by omega); omega
 have W64:∀c v:Int,0<=v->v<=255->0<=c->c<=1000->Aa3 .i64 (c+Ad v)=c+Ad v:=λc v h0 h1 h2 h3=>InR.wrap (by have:=B v h0 h1; simp only[InR]; omega);have U32:4294967296<=x->Ad x=32+Ad (x/4294967296):=λh=>QU 32 h;have U16:∀v:Int,65536<=v->Ad v=16+Ad (v/65536):=λv h=>QU 16 h;have U8:∀v:Int,256<=v->Ad v=8+Ad (v/256):=λv h=>QU 8 h;have u1:=U16 x;have u2:=U16 (x/4294967296);have u3:=U8 x;have u4:=U8 (x/4294967296);have u5:=U8 (x/65536);have u6:=U8 (x/4294967296/65536);have S16:∀v:Int,iShr v 16=v/65536:=λv=>AmF _ (by decide);have S8:∀v:Int,iShr v 8=v/256:=λv=>AmF _ (by decide);have c32:pSh 64 32:=by decide
 have c16:pSh 64 16:=by decide
 have c8:pSh 64 8:=by decide
 simp only[RP,S16,S8,D,E]
 repeat' (first|assumption|apply And.intro|intro _)
 all_goals (first|trivial|(rw[W8 _ (by omega) (by omega)]; exact(T _ (by omega) (by omega)).2.1)|(rw[W8 _ (by omega) (by omega)]; exact(T _ (by omega) (by omega)).2.2)|skip)
 all_goals
  rw[W8 _ (by omega) (by omega),(T _ (by omega) (by omega)).1]
  rw[W64 _ _ (by omega) (by omega) (by omega) (by omega)]
  omega
def r252:Cr PR:=Kw (λ_=>true) [] 252 6 {ps:=[(false,[.int .u64])],rs:=[(false,hI)],out:=λa=>[[.i (Ad (AnF a))]]} U λa=>Y (v252 (AnF a))
theorem v239 (x:Int):AnD x->True->True/\(AnC (Ad x)->Aa3 .i64 (iSub 64 (Ad x))=64-Ad x):=by
 intro hw hp;simp only[Wfs,Wf,InR,and_true]at hw;refine⟨trivial,λh=> ?_⟩;have B:0<=Ad x/\Ad x<=64:=by
  by_cases hv:x=0
  · subst hv; decide
  · have:=QV (y:=x) (by omega) (by omega); omega
 exact InR.wrap (by simp only[InR,iSub]; omega)
def r239:Cr PR:=Kw (λ_=>true) [r252] 239 6 {ps:=[(false,[.int .u64])],rs:=[(false,hI)],out:=λa=>[[.i (64-Ad (AnF a))]]} U λa=>Y (v239 (AnF a))
def A211 (h:Int) (l:Int) (y:Int):FuncId->Nat->LoopAnn:=λ_ i=>bif Nat.beq i 17 then .inv (Int×Int) (λx=>NY (JX h l y) (EL l y/4294967296) (BB y) x.1 x.2) (λx=>[(15,.int .u64 x.1),(16,.int .u64 x.2)]) (λ_=>[]) [] [0,1,2,6,7,8,9,10,11,12,13,14,15,16,17,18,20,24,27,78,85,113,120] (λx=>x.1.toNat)else bif Nat.beq i 24 then .inv (Int×Int) (λx=>NY (MS h l y) (EL l y % 4294967296) (BB y) x.1 x.2) (λx=>[(18,.int .u64 x.1),(16,.int .u64 x.2)]) (λ_=>[]) [] [0,1,2,6,7,8,9,10,11,12,13,14,15,16,17,18,20,24,27,78,85,113,120] (λx=>x.1.toNat)else bif Nat.beq i 1000021 then .cut Unit (λ_=>True) (λ_=>[(15,.int .u64 (Hl h l y))]) (λ_=>[]) [] [0,1,2,6,7,8,9,10,11,12,13,14,15,16,17,18,20,24,27,78,85,113,120]else bif Nat.beq i 1000028 then .cut Unit (λ_=>True) (λ_=>[(18,.int .u64 (MW h l y))]) (λ_=>[]) [] [0,1,2,6,7,8,9,10,11,12,13,14,15,16,17,18,20,24,27,78,85,113,120]else .unroll 0
def Ai0 (h:Int) (l:Int) (y:Int) (x:Int×Int):Prop:=Sm h/\Sm l/\Sm (Aa3 .u64 (iShl y (Aa3 .u64 (64-Ad y))))/\Sm (Aa3 .u64 (64-Ad y))/\Sm (iShr (Aa3 .u64 (iShl y (Aa3 .u64 (64-Ad y)))) 32)/\Sm (iAnd IntKind.u64 (Aa3 .u64 (iShl y (Aa3 .u64 (64-Ad y)))) 4294967295)/\Sm (iOr IntKind.u64 (Aa3 .u64 (iShl h (Aa3 .u64 (64-Ad y)))) (iShr l (Aa3 .u64 (iSub 64 (Aa3 .u64 (64-Ad y))))))/\Sm (Aa3 .u64 (iShl l (Aa3 .u64 (64-Ad y))))/\Sm (iShr (Aa3 .u64 (iShl l (Aa3 .u64 (64-Ad y)))) 32)/\Sm (iAnd IntKind.u64 (Aa3 .u64 (iShl l (Aa3 .u64 (64-Ad y)))) 4294967295)/\Sm (Hl h l y)/\Sm (Aa3 .u64 (iSub (Aa3 .u64 (iAdd (Aa3 .u64 (iMul (iOr IntKind.u64 (Aa3 .u64 (iShl h (Aa3 .u64 (64-Ad y)))) (iShr l (Aa3 .u64 (iSub 64 (Aa3 .u64 (64-Ad y)))))) 4294967296)) (iShr (Aa3 .u64 (iShl l (Aa3 .u64 (64-Ad y)))) 32))) (Aa3 .u64 (iMul (Hl h l y) (Aa3 .u64 (iShl y (Aa3 .u64 (64-Ad y))))))))/\∃(y_1:Int×Int),NY (MS h l y) (EL l y % 4294967296) (BB y) y_1.1 y_1.2/\Aa3 .u64 (iSub x.1 1)=y_1.1/\Aa3 .u64 (iAdd x.2 (iShr (Aa3 .u64 (iShl y (Aa3 .u64 (64-Ad y)))) 32))=y_1.2/\nLt y_1.1.toNat x.1.toNat
def AiZ (h:Int) (l:Int) (y:Int) (x:Int×Int):Prop:=Sm h/\Sm l/\Sm (Aa3 .u64 (iShl y (Aa3 .u64 (64-Ad y))))/\Sm (Aa3 .u64 (64-Ad y))/\Sm (iShr (Aa3 .u64 (iShl y (Aa3 .u64 (64-Ad y)))) 32)/\Sm (iAnd IntKind.u64 (Aa3 .u64 (iShl y (Aa3 .u64 (64-Ad y)))) 4294967295)/\Sm (iOr IntKind.u64 (Aa3 .u64 (iShl h (Aa3 .u64 (64-Ad y)))) (iShr l (Aa3 .u64 (iSub 64 (Aa3 .u64 (64-Ad y))))))/\Sm (Aa3 .u64 (iShl l (Aa3 .u64 (64-Ad y))))/\Sm (iShr (Aa3 .u64 (iShl l (Aa3 .u64 (64-Ad y)))) 32)/\Sm (iAnd IntKind.u64 (Aa3 .u64 (iShl l (Aa3 .u64 (64-Ad y)))) 4294967295)/\Sm (Hl h l y)/\Sm (Aa3 .u64 (iSub (Aa3 .u64 (iAdd (Aa3 .u64 (iMul (iOr IntKind.u64 (Aa3 .u64 (iShl h (Aa3 .u64 (64-Ad y)))) (iShr l (Aa3 .u64 (iSub 64 (Aa3 .u64 (64-Ad y)))))) 4294967296)) (iShr (Aa3 .u64 (iShl l (Aa3 .u64 (64-Ad y)))) 32))) (Aa3 .u64 (iMul (Hl h l y) (Aa3 .u64 (iShl y (Aa3 .u64 (64-Ad y))))))))/\∃(y_1:Unit),True/\Aa3 .u64 (iSub x.1 1)=MW h l y
def AiY (h:Int) (l:Int) (y:Int) (x:Int×Int):Prop:=Sm h/\Sm l/\Sm (Aa3 .u64 (iShl y (Aa3 .u64 (64-Ad y))))/\Sm (Aa3 .u64 (64-Ad y))/\Sm (iShr (Aa3 .u64 (iShl y (Aa3 .u64 (64-Ad y)))) 32)/\Sm (iAnd IntKind.u64 (Aa3 .u64 (iShl y (Aa3 .u64 (64-Ad y)))) 4294967295)/\Sm (iOr IntKind.u64 (Aa3 .u64 (iShl h (Aa3 .u64 (64-Ad y)))) (iShr l (Aa3 .u64 (iSub 64 (Aa3 .u64 (64-Ad y))))))/\Sm (Aa3 .u64 (iShl l (Aa3 .u64 (64-Ad y))))/\Sm (iShr (Aa3 .u64 (iShl l (Aa3 .u64 (64-Ad y)))) 32)/\Sm (iAnd IntKind.u64 (Aa3 .u64 (iShl l (Aa3 .u64 (64-Ad y)))) 4294967295)/\∃(y_1:Int×Int),NY (JX h l y) (EL l y/4294967296) (BB y) y_1.1 y_1.2/\Aa3 .u64 (iSub x.1 1)=y_1.1/\Aa3 .u64 (iAdd x.2 (iShr (Aa3 .u64 (iShl y (Aa3 .u64 (64-Ad y)))) 32))=y_1.2/\nLt y_1.1.toNat x.1.toNat
def AiX (h:Int) (l:Int) (y:Int) (x:Int×Int):Prop:=Sm h/\Sm l/\Sm (Aa3 .u64 (iShl y (Aa3 .u64 (64-Ad y))))/\Sm (Aa3 .u64 (64-Ad y))/\Sm (iShr (Aa3 .u64 (iShl y (Aa3 .u64 (64-Ad y)))) 32)/\Sm (iAnd IntKind.u64 (Aa3 .u64 (iShl y (Aa3 .u64 (64-Ad y)))) 4294967295)/\Sm (iOr IntKind.u64 (Aa3 .u64 (iShl h (Aa3 .u64 (64-Ad y)))) (iShr l (Aa3 .u64 (iSub 64 (Aa3 .u64 (64-Ad y))))))/\Sm (Aa3 .u64 (iShl l (Aa3 .u64 (64-Ad y))))/\Sm (iShr (Aa3 .u64 (iShl l (Aa3 .u64 (64-Ad y)))) 32)/\Sm (iAnd IntKind.u64 (Aa3 .u64 (iShl l (Aa3 .u64 (64-Ad y)))) 4294967295)/\∃(y_1:Unit),True/\Aa3 .u64 (iSub x.1 1)=Hl h l y
theorem v211 (h:Int) (l:Int) (y:Int):AnD h/\AnD l/\AnD y->h<y/\True->Cn (bEq y 0) False (Cn (bLe y h) False (Cn (bEq h 0) (pNe y 0/\pNe y 0/\Aa3 .u64 (iQuo l y)=Ov h l y/\iRem l y=Md h l y) (True/\(AnC (64-Ad y)->pSh 64 (Aa3 .u64 (64-Ad y))/\pSh 64 32/\pSh 64 (Aa3 .u64 (64-Ad y))/\pSh 64 (Aa3 .u64 (iSub 64 (Aa3 .u64 (64-Ad y))))/\pSh 64 (Aa3 .u64 (64-Ad y))/\pSh 64 32/\pNe (iShr (Aa3 .u64 (iShl y (Aa3 .u64 (64-Ad y)))) 32) 0/\((∃(x:Int×Int),NY (JX h l y) (EL l y/4294967296) (BB y) x.1 x.2/\Aa3 .u64 (iQuo (iOr IntKind.u64 (Aa3 .u64 (iShl h (Aa3 .u64 (64-Ad y)))) (iShr l (Aa3 .u64 (iSub 64 (Aa3 .u64 (64-Ad y)))))) (iShr (Aa3 .u64 (iShl y (Aa3 .u64 (64-Ad y)))) 32))=x.1/\Aa3 .u64 (iSub (iOr IntKind.u64 (Aa3 .u64 (iShl h (Aa3 .u64 (64-Ad y)))) (iShr l (Aa3 .u64 (iSub 64 (Aa3 .u64 (64-Ad y)))))) (Aa3 .u64 (iMul (Aa3 .u64 (iQuo (iOr IntKind.u64 (Aa3 .u64 (iShl h (Aa3 .u64 (64-Ad y)))) (iShr l (Aa3 .u64 (iSub 64 (Aa3 .u64 (64-Ad y)))))) (iShr (Aa3 .u64 (iShl y (Aa3 .u64 (64-Ad y)))) 32))) (iShr (Aa3 .u64 (iShl y (Aa3 .u64 (64-Ad y)))) 32))))=x.2)/\∀(x:Int×Int),NY (JX h l y) (EL l y/4294967296) (BB y) x.1 x.2->AnD x.1/\AnD x.2->Cn (bLe 4294967296 x.1) (Cn (bLe 4294967296 (Aa3 .u64 (iAdd x.2 (iShr (Aa3 .u64 (iShl y (Aa3 .u64 (64-Ad y)))) 32)))) ((AiX h l y x)) ((AiY h l y x))) (Cn (bLt (Aa3 .u64 (iAdd (Aa3 .u64 (iMul 4294967296 x.2)) (iShr (Aa3 .u64 (iShl l (Aa3 .u64 (64-Ad y)))) 32))) (Aa3 .u64 (iMul x.1 (iAnd IntKind.u64 (Aa3 .u64 (iShl y (Aa3 .u64 (64-Ad y)))) 4294967295)))) (Cn (bLe 4294967296 (Aa3 .u64 (iAdd x.2 (iShr (Aa3 .u64 (iShl y (Aa3 .u64 (64-Ad y)))) 32)))) ((AiX h l y x)) ((AiY h l y x))) (Sm h/\Sm l/\Sm (Aa3 .u64 (iShl y (Aa3 .u64 (64-Ad y))))/\Sm (Aa3 .u64 (64-Ad y))/\Sm (iShr (Aa3 .u64 (iShl y (Aa3 .u64 (64-Ad y)))) 32)/\Sm (iAnd IntKind.u64 (Aa3 .u64 (iShl y (Aa3 .u64 (64-Ad y)))) 4294967295)/\Sm (iOr IntKind.u64 (Aa3 .u64 (iShl h (Aa3 .u64 (64-Ad y)))) (iShr l (Aa3 .u64 (iSub 64 (Aa3 .u64 (64-Ad y))))))/\Sm (Aa3 .u64 (iShl l (Aa3 .u64 (64-Ad y))))/\Sm (iShr (Aa3 .u64 (iShl l (Aa3 .u64 (64-Ad y)))) 32)/\Sm (iAnd IntKind.u64 (Aa3 .u64 (iShl l (Aa3 .u64 (64-Ad y)))) 4294967295)/\∃(y_1:Unit),True/\x.1=Hl h l y)))/\∀(x:Unit),True->AnD (Hl h l y)->pNe (iShr (Aa3 .u64 (iShl y (Aa3 .u64 (64-Ad y)))) 32) 0/\((∃(x:Int×Int),NY (MS h l y) (EL l y % 4294967296) (BB y) x.1 x.2/\Aa3 .u64 (iQuo (Aa3 .u64 (iSub (Aa3 .u64 (iAdd (Aa3 .u64 (iMul (iOr IntKind.u64 (Aa3 .u64 (iShl h (Aa3 .u64 (64-Ad y)))) (iShr l (Aa3 .u64 (iSub 64 (Aa3 .u64 (64-Ad y)))))) 4294967296)) (iShr (Aa3 .u64 (iShl l (Aa3 .u64 (64-Ad y)))) 32))) (Aa3 .u64 (iMul (Hl h l y) (Aa3 .u64 (iShl y (Aa3 .u64 (64-Ad y)))))))) (iShr (Aa3 .u64 (iShl y (Aa3 .u64 (64-Ad y)))) 32))=x.1/\Aa3 .u64 (iSub (Aa3 .u64 (iSub (Aa3 .u64 (iAdd (Aa3 .u64 (iMul (iOr IntKind.u64 (Aa3 .u64 (iShl h (Aa3 .u64 (64-Ad y)))) (iShr l (Aa3 .u64 (iSub 64 (Aa3 .u64 (64-Ad y)))))) 4294967296)) (iShr (Aa3 .u64 (iShl l (Aa3 .u64 (64-Ad y)))) 32))) (Aa3 .u64 (iMul (Hl h l y) (Aa3 .u64 (iShl y (Aa3 .u64 (64-Ad y)))))))) (Aa3 .u64 (iMul (Aa3 .u64 (iQuo (Aa3 .u64 (iSub (Aa3 .u64 (iAdd (Aa3 .u64 (iMul (iOr IntKind.u64 (Aa3 .u64 (iShl h (Aa3 .u64 (64-Ad y)))) (iShr l (Aa3 .u64 (iSub 64 (Aa3 .u64 (64-Ad y)))))) 4294967296)) (iShr (Aa3 .u64 (iShl l (Aa3 .u64 (64-Ad y)))) 32))) (Aa3 .u64 (iMul (Hl h l y) (Aa3 .u64 (iShl y (Aa3 .u64 (64-Ad y)))))))) (iShr (Aa3 .u64 (iShl y (Aa3 .u64 (64-Ad y)))) 32))) (iShr (Aa3 .u64 (iShl y (Aa3 .u64 (64-Ad y)))) 32))))=x.2)/\∀(x:Int×Int),NY (MS h l y) (EL l y % 4294967296) (BB y) x.1 x.2->AnD x.1/\AnD x.2->Cn (bLe 4294967296 x.1) (Cn (bLe 4294967296 (Aa3 .u64 (iAdd x.2 (iShr (Aa3 .u64 (iShl y (Aa3 .u64 (64-Ad y)))) 32)))) ((AiZ h l y x)) ((Ai0 h l y x))) (Cn (bLt (Aa3 .u64 (iAdd (Aa3 .u64 (iMul 4294967296 x.2)) (iAnd IntKind.u64 (Aa3 .u64 (iShl l (Aa3 .u64 (64-Ad y)))) 4294967295))) (Aa3 .u64 (iMul x.1 (iAnd IntKind.u64 (Aa3 .u64 (iShl y (Aa3 .u64 (64-Ad y)))) 4294967295)))) (Cn (bLe 4294967296 (Aa3 .u64 (iAdd x.2 (iShr (Aa3 .u64 (iShl y (Aa3 .u64 (64-Ad y)))) 32)))) ((AiZ h l y x)) ((Ai0 h l y x))) (Sm h/\Sm l/\Sm (Aa3 .u64 (iShl y (Aa3 .u64 (64-Ad y))))/\Sm (Aa3 .u64 (64-Ad y))/\Sm (iShr (Aa3 .u64 (iShl y (Aa3 .u64 (64-Ad y)))) 32)/\Sm (iAnd IntKind.u64 (Aa3 .u64 (iShl y (Aa3 .u64 (64-Ad y)))) 4294967295)/\Sm (iOr IntKind.u64 (Aa3 .u64 (iShl h (Aa3 .u64 (64-Ad y)))) (iShr l (Aa3 .u64 (iSub 64 (Aa3 .u64 (64-Ad y))))))/\Sm (Aa3 .u64 (iShl l (Aa3 .u64 (64-Ad y))))/\Sm (iShr (Aa3 .u64 (iShl l (Aa3 .u64 (64-Ad y)))) 32)/\Sm (iAnd IntKind.u64 (Aa3 .u64 (iShl l (Aa3 .u64 (64-Ad y)))) 4294967295)/\Sm (Hl h l y)/\Sm (Aa3 .u64 (iSub (Aa3 .u64 (iAdd (Aa3 .u64 (iMul (iOr IntKind.u64 (Aa3 .u64 (iShl h (Aa3 .u64 (64-Ad y)))) (iShr l (Aa3 .u64 (iSub 64 (Aa3 .u64 (64-Ad y)))))) 4294967296)) (iShr (Aa3 .u64 (iShl l (Aa3 .u64 (64-Ad y)))) 32))) (Aa3 .u64 (iMul (Hl h l y) (Aa3 .u64 (iShl y (Aa3 .u64 (64-Ad y))))))))/\∃(y_1:Unit),True/\x.1=MW h l y)))/\∀(x:Unit),True->AnD (MW h l y)->pSh 64 (Aa3 .u64 (64-Ad y))/\Aa3 .u64 (iAdd (Aa3 .u64 (iMul (Hl h l y) 4294967296)) (MW h l y))=Ov h l y/\iShr (Aa3 .u64 (iSub (Aa3 .u64 (iAdd (Aa3 .u64 (iMul (Aa3 .u64 (iSub (Aa3 .u64 (iAdd (Aa3 .u64 (iMul (iOr IntKind.u64 (Aa3 .u64 (iShl h (Aa3 .u64 (64-Ad y)))) (iShr l (Aa3 .u64 (iSub 64 (Aa3 .u64 (64-Ad y)))))) 4294967296)) (iShr (Aa3 .u64 (iShl l (Aa3 .u64 (64-Ad y)))) 32))) (Aa3 .u64 (iMul (Hl h l y) (Aa3 .u64 (iShl y (Aa3 .u64 (64-Ad y)))))))) 4294967296)) (iAnd IntKind.u64 (Aa3 .u64 (iShl l (Aa3 .u64 (64-Ad y)))) 4294967295))) (Aa3 .u64 (iMul (MW h l y) (Aa3 .u64 (iShl y (Aa3 .u64 (64-Ad y)))))))) (Aa3 .u64 (64-Ad y))=Md h l y)))):=by
 intro hw hp;delta Ai0 AiZ AiY AiX;simp only[Cn_iff,Abc,true_and];simp only[Wfs,Wf,InR,and_true]at hw;have F:=WO (h:=h) (l:=l) (y:=y) (by omega) (by omega) (by omega) (by omega) hp.1;have W:∀e:Int,0<=e->e<=18446744073709551615->Aa3 .u64 e=e:=λe h0 h1=>BH h0 h1;have c32:pSh 64 32:=by decide
 have cS:pSh 64 (64-Ad y):=⟨F.s0,by have:=F.s1; have:=F.s0; omega⟩
 have cT:pSh 64 (64- (64-Ad y)):=⟨by have:=F.s1; omega,by have:=F.s1; have:=F.s0; omega⟩
 have s5:=F.d0;have s6:=F.d1;have s7:=F.u0;have s8:=F.u1;have s9:=F.b0;have s10:=F.b1;have hsh:iShl y (64-Ad y)=y*Ox y:=rfl;refine⟨λhy=> ?_,λ_=>⟨λhy=> ?_,λ_=>⟨λh0=>⟨?_,?_,?_,?_⟩,λh0=>λ_=> ?_⟩⟩⟩
 · simp only[bEq,AlE]at hy; omega
 · simp only[bLe,AlE]at hy; omega
 · show y≠0; omega
 · show y≠0; omega
 · simp only[bEq,AlE]at h0;subst h0;have:=Al8 (a:=l) (b:=y) (by omega) (by omega);have:=Amy (a:=l) y (by omega);have e:iQuo l y=l/y:=AlI (by omega);rw[e,W _ (by omega) (by omega)];simp[Ov]
 · simp only[bEq,AlE]at h0;subst h0;show l.tmod y=_;rw[AmP (by omega)];simp[Md]
 rw[F.e0,F.e2,F.e4,F.e1,F.e3,RP (BB y),RP (EL l y)];rw[QK (x:=BB y) (by omega) (by omega),QK (x:=EL l y) (by omega) (by omega)];have q1':Hl h l y=(JX h l y*4294967296+EL l y/4294967296)/BB y:=rfl;have a1':MS h l y=JX h l y*4294967296+EL l y/4294967296-Hl h l y*BB y:=rfl;have q0':MW h l y=(MS h l y*4294967296+EL l y % 4294967296)/BB y:=rfl;have eq:=F.eq;have p0:=F.p0;have dD:BB y=y*Ox y:=rfl;have tl:=Uc (N:=JX h l y*4294967296+EL l y/4294967296) (D:=BB y) (by omega);rw[←q1',←a1']at tl;have tm:=Uc (N:=MS h l y*4294967296+EL l y % 4294967296) (D:=BB y) (by omega);rw[←q0']at tm;have i1:=H7.init (a:=JX h l y) (u:=EL l y/4294967296) (D:=BB y) (by omega) (by omega) (by omega) (by omega) (by omega) (by omega);have i2:=H7.init (a:=MS h l y) (u:=EL l y % 4294967296) (D:=BB y) (by omega) (by omega) (by omega) (by omega) (by omega) (by omega);have v1:2147483648<=BB y/4294967296:=by omega
 have Q1:0<=Hl h l y/\Hl h l y<4294967296:=⟨by rw[q1']; exact Al8 (by omega) (by omega),by rw[q1']; exact Qw (by omega) (by omega) (by omega)⟩
 have Q0:0<=MW h l y/\MW h l y<4294967296:=⟨by rw[q0']; exact Al8 (by omega) (by omega),by rw[q0']; exact Qw (by omega) (by omega) (by omega)⟩
 have digit:∀a u:Int,0<=a->a<BB y->0<=u->u<4294967296->∀Q:Int,Q=(a*4294967296+u)/BB y->∀x:Int×Int,NY a u (BB y) x.1 x.2->
  Aa3 .u64 (iAdd (Aa3 .u64 (iMul 4294967296 x.2)) u)=4294967296*x.2+u/\Aa3 .u64 (iMul x.1 (BB y % 4294967296))=x.1*(BB y % 4294967296)/\
  (x.1<4294967296->¬4294967296*x.2+u<x.1*(BB y % 4294967296)->x.1=Q)/\
  (4294967296<=x.1∨4294967296*x.2+u<x.1*(BB y % 4294967296)->Aa3 .u64 (iSub x.1 1)=x.1-1/\Aa3 .u64 (iAdd x.2 (BB y/4294967296))=x.2+BB y/4294967296/\1<=x.1/\
   (x.2+BB y/4294967296<4294967296->NY a u (BB y) (x.1-1) (x.2+BB y/4294967296))/\(4294967296<=x.2+BB y/4294967296->x.1-1=Q)):=by
  intro a u ha ha' hu hu' Q hQ x hd;have hd':H7 a u (BB y) x.1 x.2:=hd;have b1:=hd'.bd s5 s6;have b2:=hd'.r0;have b3:=hd'.r1;have b4:=hd'.q1;refine⟨?_,W _ b1.1 b1.2,λh1 h2=>by rw[hQ]; exact hd'.stop (by omega) (by omega),λhc=> ?_⟩
  · rw[W (iMul 4294967296 x.2) (by simp only[iMul]; omega) (by simp only[iMul]; omega)];exact W _ (by simp only[iAdd,iMul]; omega) (by simp only[iAdd,iMul]; omega)
  · have d:=hd'.dec s5 s6 ha ha' hu hu' hc;exact⟨W _ (by simp only[iSub]; omega) (by simp only[iSub]; omega),W _ d.2.1 d.2.2.1,d.1,λh=>d.2.2.2.1 h,λh=>by rw[hQ]; exact d.2.2.2.2 h⟩
 have D1:=digit (JX h l y) (EL l y/4294967296) (by omega) (by omega) (by omega) (by omega) (Hl h l y) q1';have D0:=digit (MS h l y) (EL l y % 4294967296) (by omega) (by omega) (by omega) (by omega) (MW h l y) q0';clear digit;have A1:Aa3 .u64 (iSub (Aa3 .u64 (iAdd (Aa3 .u64 (iMul (JX h l y) 4294967296)) (EL l y/4294967296))) (Aa3 .u64 (iMul (Hl h l y) (BB y))))=MS h l y:=by
  simp only[iAdd,iSub,iMul,L6];omega
 have A0:Aa3 .u64 (iSub (Aa3 .u64 (iAdd (Aa3 .u64 (iMul (MS h l y) 4294967296)) (EL l y % 4294967296))) (Aa3 .u64 (iMul (MW h l y) (BB y))))=MS h l y*4294967296+EL l y % 4294967296-MW h l y*BB y:=by
  simp only[iAdd,iSub,iMul,L6];omega
 have ini:∀a u:Int,0<=a->a<BB y->H7 a u (BB y) (a/(BB y/4294967296)) (a-a/(BB y/4294967296)*(BB y/4294967296))->
  Aa3 .u64 (iQuo a (BB y/4294967296))=a/(BB y/4294967296)/\Aa3 .u64 (iSub a (Aa3 .u64 (iMul (a/(BB y/4294967296)) (BB y/4294967296))))=a-a/(BB y/4294967296)*(BB y/4294967296):=by
  intro a u h0 h1 hd;have b2:=hd.r0;have b3:=hd.q0;have b4:=hd.q1;have b5:=Al1 b3 (show 0<=BB y/4294967296 by omega);have e:iQuo a (BB y/4294967296)=a/(BB y/4294967296):=AlI h0;refine⟨by rw[e]; exact W _ b3 (by omega),?_⟩;rw[W (iMul _ _) b5 (by simp only[iMul]; omega)];exact W _ (by simp only[iSub,iMul]; omega) (by simp only[iSub,iMul]; omega)
 have I1:=ini _ _ s7 s8 i1;have I0:=ini _ _ tl.1 tl.2 i2;clear ini;rw[A1];rw[I1.1,I1.2,I0.1,I0.2];refine⟨cS,c32,cS,cT,cS,c32,by show BB y/4294967296≠0; omega,⟨⟨(_,_),i1,rfl,rfl⟩,λx hx _=> ?_⟩,λ_ _ _=>⟨by show BB y/4294967296≠0; omega,⟨⟨(_,_),i2,rfl,rfl⟩,λx hx _=> ?_⟩,λ_ _ _=> ?_⟩⟩
 · have d:=D1 x hx;rw[d.1,d.2.1];simp only[bLe,bLt,AlE,AlD];refine⟨λh1=> ?_,λh1=>⟨λh2=> ?_,λh2=> ?_⟩⟩;rotate_left
   · obtain⟨e1,e2,e3,e4,e5⟩:=d.2.2.2 (.inr h2);rw[e1,e2];exact⟨λh3=>⟨(),e5 h3⟩,λh3=>⟨(_,_),e4 (by omega),rfl,rfl,by simp only; omega⟩⟩
   · exact⟨(),d.2.2.1 (by omega) h2⟩
   · obtain⟨e1,e2,e3,e4,e5⟩:=d.2.2.2 (.inl h1);rw[e1,e2];exact⟨λh3=>⟨(),e5 h3⟩,λh3=>⟨(_,_),e4 (by omega),rfl,rfl,by simp only; omega⟩⟩
 · have d:=D0 x hx;rw[d.1,d.2.1];simp only[bLe,bLt,AlE,AlD];refine⟨λh1=> ?_,λh1=>⟨λh2=> ?_,λh2=> ?_⟩⟩;rotate_left
   · obtain⟨e1,e2,e3,e4,e5⟩:=d.2.2.2 (.inr h2);rw[e1,e2];exact⟨λh3=>⟨(),e5 h3⟩,λh3=>⟨(_,_),e4 (by omega),rfl,rfl,by simp only; omega⟩⟩
   · exact⟨(),d.2.2.1 (by omega) h2⟩
   · obtain⟨e1,e2,e3,e4,e5⟩:=d.2.2.2 (.inl h1);rw[e1,e2];exact⟨λh3=>⟨(),e5 h3⟩,λh3=>⟨(_,_),e4 (by omega),rfl,rfl,by simp only; omega⟩⟩
 · rw [A0];have sh : ∀ R : Int, iShr R (64 - Ad y) = R / Ox y := λR => AmF _ (by show 0 <= Ox y; omega);have fin := X4 (H := h * 18446744073709551616 + l) (y := y) (p := Ox y) (Q := Hl h l y * 4294967296 + MW h l y) (R := MS h l y * 4294967296 + EL l y % 4294967296 - MW h l y * BB y) p0 (by omega)
    (by rw[eq,←dD,Amt,Am5 (Hl h l y)]; omega) tm.1 (by rw[←dD]; exact tm.2)
   refine⟨cS,?_,?_⟩
   · rw[W (iMul _ _) (by simp only[iMul]; omega) (by simp only[iMul]; omega),W _ (by simp only[iAdd,iMul]; omega) (by simp only[iAdd,iMul]; omega)];exact fin.1.symm
   · rw[sh];exact fin.2.symm
def r211:Cr PR:=Kw (λ_=>true) [r239] 211 6 {ps:=[(false,[.int .u64]),(false,[.int .u64]),(false,[.int .u64])],rs:=[(false,[.int .u64]),(false,[.int .u64])],pre:=λa=>(AnF a)<(AnI a)/\True,out:=λa=>[[.i (Ov (AnF a) (AnG a) (AnI a))],[.i (Md (AnF a) (AnG a) (AnI a))]]} (λa=>A211 (AnF a) (AnG a) (AnI a)) λa=>Y (v211 (AnF a) (AnG a) (AnI a))
end Go.Sx

namespace Go
open Go.Sx
def BJ (n:Int):Int:=if n<0 then-n else n
def AB (n a b:Int):Int:=n*a/b
def Ep (n a b:Int):Int:=n*a % b
def EF (n a b:Int):Int:= -(-n*a/b)
def Cm (n a b:Int):Int:=BJ n*a/b
def BG (v:Int):Bool:=decide (-4611686018427387904<=v/\v<=4611686018427387904)
def CW (n a b:Int):Bool:=decide (Cm n a b<=4611686018427387904)
def EE (n a b:Int):Int:=bif CW n a b then AB n a b else 0
def FO (n a b:Int):Int:=bif CW n a b then Ep n a b else 0
def FD (n a b:Int):Int:=bif BG (AB n a b)then AB n a b else 0
def Gi (n a b:Int):Int:=bif BG (AB n a b)then Ep n a b else 0
def D9 (n a b:Int):Int:=if Ai a b=false then 1 else if n< -1125899906842624∨1125899906842624<n then 2 else 0
def Dp (n a b:Int):Int:=if D9 n a b≠0 then D9 n a b else bif BG (AB n a b)then 0 else 2
def DF (n a b:Int):Int:=if Dp n a b=0 then AB n a b else 0
def Ju (n a b:Int):Int:=if Dp n a b=0 then Ep n a b else 0
def Di (n a b:Int):Int:=if D9 n a b≠0 then D9 n a b else bif BG (EF n a b)then 0 else 2
def Cb (n a b:Int):Int:=if Di n a b=0 then EF n a b else 0
theorem Vq {m b:Int} (hb:1<=b):(m % b=0->-m/b= -(m/b)/\-m % b=0)/\(m % b≠0->-m/b= -(m/b)-1/\-m % b=b-m % b):=by
 have d1:=Ann m b;have d2:=AmB m (show b≠0 by omega);have d3:=Aml m (show 0<b by omega);constructor
 · intro h;have:=(Anr (a:= -m) (b:=b) (r:=0) (q:= -(m/b)) (by omega)).2 ⟨by rw[Int.mul_neg]; omega,by omega,by omega⟩;exact this
 · intro h;have:=(Anr (a:= -m) (b:=b) (r:=b-m % b) (q:= -(m/b)-1) (by omega)).2 ⟨by rw[Int.mul_sub,Int.mul_neg]; omega,by omega,by omega⟩;exact this
theorem QQ (x y b:Int):Ov (BM x y) (BD x y) b=x*y/b/\Md (BM x y) (BD x y) b=x*y % b:=by
 have e:BM x y*18446744073709551616+BD x y=x*y:=by unfold BM BD; omega
 unfold Ov Md;rw[e]; exact⟨rfl,rfl⟩
structure AaZ (n a b:Int):Prop where
 q0:0<=Cm n a b
 m0:0<=BJ n*a
 m1:BJ n*a<=77371252455336267181195264
 r0:0<=BJ n*a % b
 r1:BJ n*a % b<b
 qe:BJ n*a/b=Cm n a b
 hi0:0<=BM (BJ n) a
 hi:b<=BM (BJ n) a->4611686018427387904<Cm n a b
 pos:0<=n->AB n a b=Cm n a b/\Ep n a b=BJ n*a % b
 neg0:n<0->BJ n*a % b=0->AB n a b= -(Cm n a b)/\Ep n a b=0
 neg1:n<0->BJ n*a % b≠0->AB n a b= -(Cm n a b)-1/\Ep n a b=b-BJ n*a % b
theorem XW {n a b:Int} (h:1<=a/\a<=68719476736/\1<=b/\b<=68719476736/\-1125899906842624<=n/\n<=1125899906842624):AaZ n a b:=by
 have hab:0<=BJ n/\BJ n<=1125899906842624:=by unfold BJ; split<;>omega
 have m:=Aa8 (x:=BJ n) (X:=1125899906842624) (y:=a) (Y:=68719476736) hab.1 hab.2 (by omega) (by omega);have nd:=Vq (m:=BJ n*a) (b:=b) (by omega);have en:n<0->n*a= -(BJ n*a):=λhn=>by unfold BJ; rw[if_pos hn,Int.neg_mul,Int.neg_neg]
 have ep:0<=n->n*a=BJ n*a:=λhn=>by unfold BJ; rw[if_neg (by omega)]
 refine⟨Al8 m.1 (by omega),m.1,by omega,AmB _ (by omega),Aml _ (by omega),rfl,Al8 m.1 (by omega),λhb=> ?_,λhn=> ?_,λhn hr=> ?_,λhn hr=> ?_⟩
 · have:b*18446744073709551616<=BJ n*a:=by unfold BM at hb; omega
   have:=TI (N:=BJ n*a) (D:=b) (q:=18446744073709551616) (by omega) (by omega);show _<BJ n*a/b;omega
 · unfold AB Ep Cm; rw[ep hn]; exact⟨rfl,rfl⟩
 · unfold AB Ep Cm; rw[en hn]; exact nd.1 hr
 · unfold AB Ep Cm; rw[en hn]; exact nd.2 hr
theorem Vb {n:Int} (h: -9223372036854775808<=n/\n<=9223372036854775807):(n<0->Aa3 .u64 (iSub 0 (Aa3 .u64 n))=BJ n)/\(0<=n->Aa3 .u64 n=BJ n):=by
 unfold BJ;constructor
 · intro hn; rw[if_pos hn]; simp only[L6,iSub]; omega
 · intro hn; rw[if_neg (by omega)]; simp only[L6]; omega
theorem Gg {e:Int} (h0: -9223372036854775808<=e) (h1:e<=9223372036854775807):Aa3 .i64 e=e:=InR.wrap (by simp only[InR]; omega)
theorem DC {a b:Int} (h:Ai a b=true):1<=a/\a<=68719476736/\1<=b/\b<=68719476736/\Ag a b=1:=by
 unfold Ai at h; simp only[AlE]at h; omega
end Go
namespace Go.Sx
def AgD (n:Int) (a:Int):Int:=(BM (Aa3 .u64 (iSub 0 (Aa3 .u64 n))) (Aa3 .u64 a))
def AhL (n:Int) (a:Int):Int:=(BD (Aa3 .u64 (iSub 0 (Aa3 .u64 n))) (Aa3 .u64 a))
def Afx (n:Int) (a:Int) (b:Int):Int:=(Ov (BM (Aa3 .u64 n) (Aa3 .u64 a)) (BD (Aa3 .u64 n) (Aa3 .u64 a)) (Aa3 .u64 b))
def Afw (n:Int) (a:Int) (b:Int):Int:=(Md (BM (Aa3 .u64 n) (Aa3 .u64 a)) (BD (Aa3 .u64 n) (Aa3 .u64 a)) (Aa3 .u64 b))
def AgC (n:Int) (a:Int) (b:Int):Prop:=0=EE n a b/\0=FO n a b/\false=CW n a b
def Afv (n:Int) (a:Int) (b:Int):Int:=(Ov (AgD n a) (AhL n a) (Aa3 .u64 b))
def Afu (n:Int) (a:Int) (b:Int):Int:=(Md (AgD n a) (AhL n a) (Aa3 .u64 b))
theorem v206 (n:Int) (a:Int) (b:Int):AnC n/\AnC a/\AnC b->1<=a/\a<=68719476736/\1<=b/\b<=68719476736/\-1125899906842624<=n/\n<=1125899906842624->Cn (bLt n 0) (True/\(AnD (AgD n a)/\AnD (AhL n a)->Cn (bLe (Aa3 .u64 b) (AgD n a)) ((AgC n a b)) ((BM (Aa3 .u64 (iSub 0 (Aa3 .u64 n))) (Aa3 .u64 a)<Aa3 .u64 b/\True)/\(AnD (Afv n a b)/\AnD (Afu n a b)->Cn (bLt 4611686018427387904 (Afv n a b)) ((AgC n a b)) (Cn (bLt n 0) (Cn (bLt 0 (Aa3 .i64 (Afu n a b))) (Aa3 .i64 (iSub (Aa3 .i64 (iSub 0 (Aa3 .i64 (Afv n a b)))) 1)=EE n a b/\Aa3 .i64 (iSub b (Aa3 .i64 (Afu n a b)))=FO n a b/\true=CW n a b) (Aa3 .i64 (iSub 0 (Aa3 .i64 (Afv n a b)))=EE n a b/\Aa3 .i64 (Afu n a b)=FO n a b/\true=CW n a b)) (Aa3 .i64 (Afv n a b)=EE n a b/\Aa3 .i64 (Afu n a b)=FO n a b/\true=CW n a b)))))) (True/\(AnD (BM (Aa3 .u64 n) (Aa3 .u64 a))/\AnD (BD (Aa3 .u64 n) (Aa3 .u64 a))->Cn (bLe (Aa3 .u64 b) (BM (Aa3 .u64 n) (Aa3 .u64 a))) ((AgC n a b)) ((BM (Aa3 .u64 n) (Aa3 .u64 a)<Aa3 .u64 b/\True)/\(AnD (Afx n a b)/\AnD (Afw n a b)->Cn (bLt 4611686018427387904 (Afx n a b)) ((AgC n a b)) (Cn (bLt n 0) (Cn (bLt 0 (Aa3 .i64 (Afw n a b))) (Aa3 .i64 (iSub (Aa3 .i64 (iSub 0 (Aa3 .i64 (Afx n a b)))) 1)=EE n a b/\Aa3 .i64 (iSub b (Aa3 .i64 (Afw n a b)))=FO n a b/\true=CW n a b) (Aa3 .i64 (iSub 0 (Aa3 .i64 (Afx n a b)))=EE n a b/\Aa3 .i64 (Afw n a b)=FO n a b/\true=CW n a b)) (Aa3 .i64 (Afx n a b)=EE n a b/\Aa3 .i64 (Afw n a b)=FO n a b/\true=CW n a b)))))):=by
 intro hw hp;delta AgD AhL Afx Afw AgC Afv Afu;simp only[Cn_iff,Abc,true_and];simp only[Wfs,Wf,InR,and_true]at hw;have F:=XW hp;have A:=Vb (n:=n) (by omega);have wa:Aa3 .u64 a=a:=BH (by omega) (by omega);have wb:Aa3 .u64 b=b:=BH (by omega) (by omega);rw[wa,wb];have hm:=F.hi0;have k1:=F.q0;have k2:=F.r0;have k3:=F.r1;have k4:=F.hi;have k5:=F.pos;have k6:=F.neg0;have k7:=F.neg1;have v1:Ov (BM (BJ n) a) (BD (BJ n) a) b=Cm n a b:=(QQ _ _ _).1;have v2:Md (BM (BJ n) a) (BD (BJ n) a) b=BJ n*a % b:=(QQ _ _ _).2;have okI:(Cm n a b<=4611686018427387904->CW n a b=true/\EE n a b=AB n a b/\FO n a b=Ep n a b)/\(4611686018427387904<Cm n a b->CW n a b=false/\EE n a b=0/\FO n a b=0):=by
  constructor
  · intro h;have e:CW n a b=true:=by unfold CW; simpa using h
    exact⟨e,by unfold EE; rw[e]; rfl,by unfold FO; rw[e]; rfl⟩
  · intro h;have e:CW n a b=false:=by unfold CW; simp; omega
    exact⟨e,by unfold EE; rw[e]; rfl,by unfold FO; rw[e]; rfl⟩
 have erI:(-4611686018427387904<=AB n a b/\AB n a b<=4611686018427387904->BG (AB n a b)=true/\FD n a b=AB n a b/\Gi n a b=Ep n a b)/\(¬(-4611686018427387904<=AB n a b/\AB n a b<=4611686018427387904)->BG (AB n a b)=false/\FD n a b=0/\Gi n a b=0):=by
  constructor
  · intro h;have e:BG (AB n a b)=true:=by unfold BG; simpa using h
    exact⟨e,by unfold FD; rw[e]; rfl,by unfold Gi; rw[e]; rfl⟩
  · intro h;have e:BG (AB n a b)=false:=by unfold BG; simp; omega
    exact⟨e,by unfold FD; rw[e]; rfl,by unfold Gi; rw[e]; rfl⟩
 have wq:Cm n a b<=4611686018427387904->Aa3 .i64 (Cm n a b)=Cm n a b:=λh=>Gg (by omega) (by omega);have w0:Cm n a b<=4611686018427387904->Aa3 .i64 (iSub 0 (Cm n a b))= -(Cm n a b):=λh=>by rw[Gg (by simp only[iSub]; omega) (by simp only[iSub]; omega)]; simp only[iSub]; omega
 have w1:Cm n a b<=4611686018427387904->Aa3 .i64 (iSub (-(Cm n a b)) 1)= -(Cm n a b)-1:=λh=>Gg (by simp only[iSub]; omega) (by simp only[iSub]; omega);have wR:Aa3 .i64 (BJ n*a % b)=BJ n*a % b:=Gg (by omega) (by omega);have wbR:Aa3 .i64 (iSub b (BJ n*a % b))=b-BJ n*a % b:=Gg (by simp only[iSub]; omega) (by simp only[iSub]; omega);refine⟨λh=> ?_,λh=> ?_⟩
 · simp only[bLt,AlE]at h;have hW:=A.1 h;rw[hW,v1,v2];clear v1 v2 hW;generalize BM (BJ n) a=mh at*;generalize BD (BJ n) a=ml at*;generalize BJ n*a % b=R at*;generalize Cm n a b=Q at*;generalize AB n a b=fl at*;generalize Ep n a b=re at*;generalize CW n a b=okq at*;generalize BG fl=inr at*;generalize EE n a b=dF at*;generalize FO n a b=dR at*;generalize FD n a b=eF at*;generalize Gi n a b=eR at*;simp only[bLt,bLe,bEq,bNe,bNot,Ams,Amv,AlE,AlD,true_and,and_true]
   repeat' (first|apply And.intro|intro _)
   all_goals (first
    |trivial
    |omega
    |exact(okI.1 (by omega)).1.symm
    |exact(okI.2 (by omega)).1.symm
    |exact(erI.1 (by omega)).1.symm
    |exact(erI.2 (by omega)).1.symm
    |(have hq:Q<=4611686018427387904:=(by omega); (try rw[wq hq]); (try rw[w0 hq]); (try rw[w1 hq]); (try rw[wR]); (try rw[wbR]); first|(have:=okI.1 hq; omega)|(have:=erI.1 (by omega); omega)|(have:=erI.2 (by omega); omega))
    |(have:=okI.2 (by omega); omega)
    |(have:=erI.2 (by omega); omega))
 · simp only[bLt,AlD]at h;have hW:=A.2 (by omega);rw[hW,v1,v2];clear v1 v2 hW;generalize BM (BJ n) a=mh at*;generalize BD (BJ n) a=ml at*;generalize BJ n*a % b=R at*;generalize Cm n a b=Q at*;generalize AB n a b=fl at*;generalize Ep n a b=re at*;generalize CW n a b=okq at*;generalize BG fl=inr at*;generalize EE n a b=dF at*;generalize FO n a b=dR at*;generalize FD n a b=eF at*;generalize Gi n a b=eR at*;simp only[bLt,bLe,bEq,bNe,bNot,Ams,Amv,AlE,AlD,true_and,and_true]
   repeat' (first|apply And.intro|intro _)
   all_goals (first
    |trivial
    |omega
    |exact(okI.1 (by omega)).1.symm
    |exact(okI.2 (by omega)).1.symm
    |exact(erI.1 (by omega)).1.symm
    |exact(erI.2 (by omega)).1.symm
    |(have hq:Q<=4611686018427387904:=(by omega); (try rw[wq hq]); (try rw[w0 hq]); (try rw[w1 hq]); (try rw[wR]); (try rw[wbR]); first|(have:=okI.1 hq; omega)|(have:=erI.1 (by omega); omega)|(have:=erI.2 (by omega); omega))
    |(have:=okI.2 (by omega); omega)
    |(have:=erI.2 (by omega); omega))
def r206:Cr PR:=Kw (λ_=>true) [r202,r211] 206 6 {ps:=[(false,hI),(true,hII)],rs:=[(false,hI),(false,hI),(false,[.bool])],pre:=λa=>1<=(AnG a)/\(AnG a)<=68719476736/\1<=(AnJ a)/\(AnJ a)<=68719476736/\-1125899906842624<=(AnF a)/\(AnF a)<=1125899906842624,out:=λa=>[[.i (EE (AnF a) (AnG a) (AnJ a))],[.i (FO (AnF a) (AnG a) (AnJ a))],[.b (CW (AnF a) (AnG a) (AnJ a))]]} U λa=>Y (v206 (AnF a) (AnG a) (AnJ a))
def AeR (n:Int) (a:Int) (b:Int):Int:=(Ov (BM (Aa3 .u64 (iSub 0 (Aa3 .u64 n))) (Aa3 .u64 a)) (BD (Aa3 .u64 (iSub 0 (Aa3 .u64 n))) (Aa3 .u64 a)) (Aa3 .u64 b))
def AeQ (n:Int) (a:Int):Int:=(BM (Aa3 .u64 (iSub 0 (Aa3 .u64 n))) (Aa3 .u64 a))
def Afy (n:Int) (a:Int):Int:=(BD (Aa3 .u64 (iSub 0 (Aa3 .u64 n))) (Aa3 .u64 a))
def AeP (n:Int) (a:Int) (b:Int):Int:=(Ov (BM (Aa3 .u64 n) (Aa3 .u64 a)) (BD (Aa3 .u64 n) (Aa3 .u64 a)) (Aa3 .u64 b))
def AeO (n:Int) (a:Int) (b:Int):Prop:=0=FD n a b/\0=Gi n a b/\false=BG (AB n a b)
def AgI (n:Int) (a:Int) (b:Int):Int:=(Md (BM (Aa3 .u64 n) (Aa3 .u64 a)) (BD (Aa3 .u64 n) (Aa3 .u64 a)) (Aa3 .u64 b))
theorem v161 (n:Int) (a:Int) (b:Int):AnC n/\AnC a/\AnC b->1<=a/\a<=68719476736/\1<=b/\b<=68719476736/\-1125899906842624<=n/\n<=1125899906842624->Cn (bLt n 0) (True/\(AnD (AeQ n a)/\AnD (Afy n a)->Cn (bLe (Aa3 .u64 b) (AeQ n a)) ((AeO n a b)) ((BM (Aa3 .u64 (iSub 0 (Aa3 .u64 n))) (Aa3 .u64 a)<Aa3 .u64 b/\True)/\(AnD (AeR n a b)/\AnD (Md (AeQ n a) (Afy n a) (Aa3 .u64 b))->Cn (bLt 4611686018427387904 (AeR n a b)) ((AeO n a b)) (True/\Cn (bNot (bLt n 0)) (Aa3 .i64 (AeR n a b)=FD n a b/\Aa3 .i64 (Md (AeQ n a) (Afy n a) (Aa3 .u64 b))=Gi n a b/\true=BG (AB n a b)) (Cn (bEq (Md (AeQ n a) (Afy n a) (Aa3 .u64 b)) 0) (Aa3 .i64 (iSub 0 (Aa3 .i64 (AeR n a b)))=FD n a b/\0=Gi n a b/\true=BG (AB n a b)) (Cn (bEq (AeR n a b) 4611686018427387904) ((AeO n a b)) (Aa3 .i64 (iSub (Aa3 .i64 (iSub 0 (Aa3 .i64 (AeR n a b)))) 1)=FD n a b/\Aa3 .i64 (iSub b (Aa3 .i64 (Md (AeQ n a) (Afy n a) (Aa3 .u64 b))))=Gi n a b/\true=BG (AB n a b))))))))) (True/\(AnD (BM (Aa3 .u64 n) (Aa3 .u64 a))/\AnD (BD (Aa3 .u64 n) (Aa3 .u64 a))->Cn (bLe (Aa3 .u64 b) (BM (Aa3 .u64 n) (Aa3 .u64 a))) ((AeO n a b)) ((BM (Aa3 .u64 n) (Aa3 .u64 a)<Aa3 .u64 b/\True)/\(AnD (AeP n a b)/\AnD (AgI n a b)->Cn (bLt 4611686018427387904 (AeP n a b)) ((AeO n a b)) (True/\Cn (bNot (bLt n 0)) (Aa3 .i64 (AeP n a b)=FD n a b/\Aa3 .i64 (AgI n a b)=Gi n a b/\true=BG (AB n a b)) (Cn (bEq (AgI n a b) 0) (Aa3 .i64 (iSub 0 (Aa3 .i64 (AeP n a b)))=FD n a b/\0=Gi n a b/\true=BG (AB n a b)) (Cn (bEq (AeP n a b) 4611686018427387904) ((AeO n a b)) (Aa3 .i64 (iSub (Aa3 .i64 (iSub 0 (Aa3 .i64 (AeP n a b)))) 1)=FD n a b/\Aa3 .i64 (iSub b (Aa3 .i64 (AgI n a b)))=Gi n a b/\true=BG (AB n a b))))))))):=by
 intro hw hp;delta AeR AeQ Afy AeP AeO AgI;simp only[Cn_iff,Abc,true_and];simp only[Wfs,Wf,InR,and_true]at hw;have F:=XW hp;have A:=Vb (n:=n) (by omega);have wa:Aa3 .u64 a=a:=BH (by omega) (by omega);have wb:Aa3 .u64 b=b:=BH (by omega) (by omega);rw[wa,wb];have hm:=F.hi0;have k1:=F.q0;have k2:=F.r0;have k3:=F.r1;have k4:=F.hi;have k5:=F.pos;have k6:=F.neg0;have k7:=F.neg1;have v1:Ov (BM (BJ n) a) (BD (BJ n) a) b=Cm n a b:=(QQ _ _ _).1;have v2:Md (BM (BJ n) a) (BD (BJ n) a) b=BJ n*a % b:=(QQ _ _ _).2;have okI:(Cm n a b<=4611686018427387904->CW n a b=true/\EE n a b=AB n a b/\FO n a b=Ep n a b)/\(4611686018427387904<Cm n a b->CW n a b=false/\EE n a b=0/\FO n a b=0):=by
  constructor
  · intro h;have e:CW n a b=true:=by unfold CW; simpa using h
    exact⟨e,by unfold EE; rw[e]; rfl,by unfold FO; rw[e]; rfl⟩
  · intro h;have e:CW n a b=false:=by unfold CW; simp; omega
    exact⟨e,by unfold EE; rw[e]; rfl,by unfold FO; rw[e]; rfl⟩
 have erI:(-4611686018427387904<=AB n a b/\AB n a b<=4611686018427387904->BG (AB n a b)=true/\FD n a b=AB n a b/\Gi n a b=Ep n a b)/\(¬(-4611686018427387904<=AB n a b/\AB n a b<=4611686018427387904)->BG (AB n a b)=false/\FD n a b=0/\Gi n a b=0):=by
  constructor
  · intro h;have e:BG (AB n a b)=true:=by unfold BG; simpa using h
    exact⟨e,by unfold FD; rw[e]; rfl,by unfold Gi; rw[e]; rfl⟩
  · intro h;have e:BG (AB n a b)=false:=by unfold BG; simp; omega
    exact⟨e,by unfold FD; rw[e]; rfl,by unfold Gi; rw[e]; rfl⟩
 have wq:Cm n a b<=4611686018427387904->Aa3 .i64 (Cm n a b)=Cm n a b:=λh=>Gg (by omega) (by omega);have w0:Cm n a b<=4611686018427387904->Aa3 .i64 (iSub 0 (Cm n a b))= -(Cm n a b):=λh=>by rw[Gg (by simp only[iSub]; omega) (by simp only[iSub]; omega)]; simp only[iSub]; omega
 have w1:Cm n a b<=4611686018427387904->Aa3 .i64 (iSub (-(Cm n a b)) 1)= -(Cm n a b)-1:=λh=>Gg (by simp only[iSub]; omega) (by simp only[iSub]; omega);have wR:Aa3 .i64 (BJ n*a % b)=BJ n*a % b:=Gg (by omega) (by omega);have wbR:Aa3 .i64 (iSub b (BJ n*a % b))=b-BJ n*a % b:=Gg (by simp only[iSub]; omega) (by simp only[iSub]; omega);refine⟨λh=> ?_,λh=> ?_⟩
 · simp only[bLt,AlE]at h;have hW:=A.1 h;rw[hW,v1,v2];clear v1 v2 hW;generalize BM (BJ n) a=mh at*;generalize BD (BJ n) a=ml at*;generalize BJ n*a % b=R at*;generalize Cm n a b=Q at*;generalize AB n a b=fl at*;generalize Ep n a b=re at*;generalize CW n a b=okq at*;generalize BG fl=inr at*;generalize EE n a b=dF at*;generalize FO n a b=dR at*;generalize FD n a b=eF at*;generalize Gi n a b=eR at*;simp only[bLt,bLe,bEq,bNe,bNot,Ams,Amv,AlE,AlD,true_and,and_true]
   repeat' (first|apply And.intro|intro _)
   all_goals (first
    |trivial
    |omega
    |exact(okI.1 (by omega)).1.symm
    |exact(okI.2 (by omega)).1.symm
    |exact(erI.1 (by omega)).1.symm
    |exact(erI.2 (by omega)).1.symm
    |(have hq:Q<=4611686018427387904:=(by omega); (try rw[wq hq]); (try rw[w0 hq]); (try rw[w1 hq]); (try rw[wR]); (try rw[wbR]); first|(have:=okI.1 hq; omega)|(have:=erI.1 (by omega); omega)|(have:=erI.2 (by omega); omega))
    |(have:=okI.2 (by omega); omega)
    |(have:=erI.2 (by omega); omega))
 · simp only[bLt,AlD]at h;have hW:=A.2 (by omega);rw[hW,v1,v2];clear v1 v2 hW;generalize BM (BJ n) a=mh at*;generalize BD (BJ n) a=ml at*;generalize BJ n*a % b=R at*;generalize Cm n a b=Q at*;generalize AB n a b=fl at*;generalize Ep n a b=re at*;generalize CW n a b=okq at*;generalize BG fl=inr at*;generalize EE n a b=dF at*;generalize FO n a b=dR at*;generalize FD n a b=eF at*;generalize Gi n a b=eR at*;simp only[bLt,bLe,bEq,bNe,bNot,Ams,Amv,AlE,AlD,true_and,and_true]
   repeat' (first|apply And.intro|intro _)
   all_goals (first
    |trivial
    |omega
    |exact(okI.1 (by omega)).1.symm
    |exact(okI.2 (by omega)).1.symm
    |exact(erI.1 (by omega)).1.symm
    |exact(erI.2 (by omega)).1.symm
    |(have hq:Q<=4611686018427387904:=(by omega); (try rw[wq hq]); (try rw[w0 hq]); (try rw[w1 hq]); (try rw[wR]); (try rw[wbR]); first|(have:=okI.1 hq; omega)|(have:=erI.1 (by omega); omega)|(have:=erI.2 (by omega); omega))
    |(have:=okI.2 (by omega); omega)
    |(have:=erI.2 (by omega); omega))
def r161:Cr PR:=Kw (λ_=>true) [r202,r211] 161 6 {ps:=[(false,hI),(true,hII)],rs:=[(false,hI),(false,hI),(false,[.bool])],pre:=λa=>1<=(AnG a)/\(AnG a)<=68719476736/\1<=(AnJ a)/\(AnJ a)<=68719476736/\-1125899906842624<=(AnF a)/\(AnF a)<=1125899906842624,out:=λa=>[[.i (FD (AnF a) (AnG a) (AnJ a))],[.i (Gi (AnF a) (AnG a) (AnJ a))],[.b (BG (AB (AnF a) (AnG a) (AnJ a)))]]} U λa=>Y (v161 (AnF a) (AnG a) (AnJ a))
theorem v205 (n:Int) (a:Int) (b:Int):AnC n/\AnC a/\AnC b->True/\True/\Cn (bNot (Ai a b)) (1=D9 n a b) (Cn (bLt n (-1125899906842624)) (2=D9 n a b) (Cn (bLt 1125899906842624 n) (2=D9 n a b) (0=D9 n a b))):=by
 intro hw;simp only[Cn_iff,Abc,true_and];unfold D9;simp only[decide_eq_decide,beq_eq_false_iff_ne,ne_eq,iAdd,iSub,iMul,iQuo,iRem,iMin,iMax,iLen,geB,pLe,pNe,bNot,bLe,bLt,bEq,bNe,Ahl,Akb,bIf,bAnd,InR,Amq,AmE,AlE,AlD,Ams,Amv,beq_iff_eq,true_implies,implies_true,true_and,and_true,AlW,AlX,false_implies,reduceCtorEq,AlG,Bool.and_eq_false_iff]
 cases Ai a b<;>simp
 repeat' (first|apply And.intro|intro _)
 all_goals (first|omega|(rw[if_pos (by omega)])|(rw[if_neg (by omega)]))
def r205:Cr PR:=K0 [r133] 205 6 {ps:=[(false,hI),(true,hII)],rs:=[(false,hI)],out:=λa=>[[.i (D9 (AnF a) (AnG a) (AnJ a))]]} U λa=>Y (v205 (AnF a) (AnG a) (AnJ a))
end Go.Sx
namespace Go
open Go.Sx
theorem Zh {n a b:Int} (h:D9 n a b=0):1<=a/\a<=68719476736/\1<=b/\b<=68719476736/\-1125899906842624<=n/\n<=1125899906842624:=by
 unfold D9 at h;split at h
 · cases h
 · rename_i h1;split at h
   · cases h
   · have:=DC (a:=a) (b:=b) (by simpa using h1);omega
theorem AaR (n a b:Int):(Cm n a b<=4611686018427387904->CW n a b=true/\EE n a b=AB n a b/\FO n a b=Ep n a b)/\(4611686018427387904<Cm n a b->CW n a b=false/\EE n a b=0/\FO n a b=0):=by
 constructor
 · intro h;have e:CW n a b=true:=by unfold CW; simpa using h
   exact⟨e,by unfold EE; rw[e]; rfl,by unfold FO; rw[e]; rfl⟩
 · intro h;have e:CW n a b=false:=by unfold CW; simp; omega
   exact⟨e,by unfold EE; rw[e]; rfl,by unfold FO; rw[e]; rfl⟩
theorem AaA (n a b:Int):(CW n a b=true->Cm n a b<=4611686018427387904)/\(CW n a b=false->4611686018427387904<Cm n a b):=by
 unfold CW; simp
theorem VQ {n a b:Int} (h:D9 n a b=0):(-4611686018427387904<=AB n a b/\AB n a b<=4611686018427387904->Dp n a b=0/\DF n a b=AB n a b/\Ju n a b=Ep n a b/\BG (AB n a b)=true)/\
 (¬(-4611686018427387904<=AB n a b/\AB n a b<=4611686018427387904)->Dp n a b=2/\DF n a b=0/\Ju n a b=0/\BG (AB n a b)=false):=by
 constructor
 · intro hi;have e:BG (AB n a b)=true:=by unfold BG; simpa using hi
   have f:Dp n a b=0:=by unfold Dp; rw[if_neg (by omega),e]; rfl
   exact⟨f,by unfold DF; rw[if_pos f],by unfold Ju; rw[if_pos f],e⟩
 · intro hi;have e:BG (AB n a b)=false:=by unfold BG; simp; omega
   have f:Dp n a b=2:=by unfold Dp; rw[if_neg (by omega),e]; rfl
   exact⟨f,by unfold DF; rw[if_neg (by omega)],by unfold Ju; rw[if_neg (by omega)],e⟩
theorem OD {n a b:Int} (h:D9 n a b=0):(-4611686018427387904<=EF n a b/\EF n a b<=4611686018427387904->Di n a b=0/\Cb n a b=EF n a b)/\
 (¬(-4611686018427387904<=EF n a b/\EF n a b<=4611686018427387904)->Di n a b=2/\Cb n a b=0):=by
 constructor
 · intro hi;have e:BG (EF n a b)=true:=by unfold BG; simpa using hi
   have f:Di n a b=0:=by unfold Di; rw[if_neg (by omega),e]; rfl
   exact⟨f,by unfold Cb; rw[if_pos f]⟩
 · intro hi;have e:BG (EF n a b)=false:=by unfold BG; simp; omega
   have f:Di n a b=2:=by unfold Di; rw[if_neg (by omega),e]; rfl
   exact⟨f,by unfold Cb; rw[if_neg (by omega)]⟩
theorem SE {n a b:Int} (h:D9 n a b≠0):Dp n a b=D9 n a b/\DF n a b=0/\Ju n a b=0/\Di n a b=D9 n a b/\Cb n a b=0:=by
 have e:Dp n a b=D9 n a b:=by unfold Dp; rw[if_pos h]
 have f:Di n a b=D9 n a b:=by unfold Di; rw[if_pos h]
 exact⟨e,by unfold DF; rw[if_neg (by omega)],by unfold Ju; rw[if_neg (by omega)],f,by unfold Cb; rw[if_neg (by omega)]⟩
theorem XZ {n a b:Int} (hb:1<=b):(Ep n a b=0->EF n a b=AB n a b)/\(Ep n a b≠0->EF n a b=AB n a b+1)/\0<=Ep n a b/\Ep n a b<b:=by
 have nd:=Vq (m:=n*a) (b:=b) hb;unfold EF AB Ep;rw[Int.neg_mul];exact⟨λh=>by rw[(nd.1 h).1]; omega,λh=>by rw[(nd.2 h).1]; omega,AmB _ (by omega),Aml _ (by omega)⟩
theorem UA {n a b:Int}:AB (-n) a b= -(EF n a b):=by unfold AB EF; omega
end Go
namespace Go.Sx
def Ai6 (n:Int) (a:Int) (b:Int):Prop:=True/\Cn (bNot (CW n a b)) (0=Cb n a b/\2=Di n a b) (Cn (bLt (EE n a b) (-4611686018427387904)) (0=Cb n a b/\2=Di n a b) (Cn (bLt 4611686018427387904 (EE n a b)) (0=Cb n a b/\2=Di n a b) (EE n a b=Cb n a b/\0=Di n a b)))
theorem v142 (n:Int) (a:Int) (b:Int):AnC n/\AnC a/\AnC b->True/\(AnC (D9 n a b)->Cn (bNe (D9 n a b) 0) (0=Cb n a b/\D9 n a b=Di n a b) ((1<=a/\a<=68719476736/\1<=b/\b<=68719476736/\-1125899906842624<=n/\n<=1125899906842624)/\(AnC (EE n a b)/\AnC (FO n a b)->Cn (CW n a b) (Cn (bLt 0 (FO n a b)) (AnC (iAdd (EE n a b) 1)/\True/\Cn (bNot (CW n a b)) (0=Cb n a b/\2=Di n a b) (Cn (bLt (iAdd (EE n a b) 1) (-4611686018427387904)) (0=Cb n a b/\2=Di n a b) (Cn (bLt 4611686018427387904 (iAdd (EE n a b) 1)) (0=Cb n a b/\2=Di n a b) (iAdd (EE n a b) 1=Cb n a b/\0=Di n a b)))) ((Ai6 n a b))) ((Ai6 n a b))))):=by
 intro hw;delta Ai6;simp only[Cn_iff,Abc,true_and];simp only[Wfs,Wf,InR,and_true]at hw;by_cases hc:D9 n a b=0
 · have ck:=Zh hc;have F:=XW ck;have o1:=AaR n a b;have o2:=AaA n a b;have f0:=VQ hc;have f1:=λh=>(⟨(f0.1 h).1,(f0.1 h).2.1,(f0.1 h).2.2.1⟩:Dp n a b=0/\DF n a b=AB n a b/\Ju n a b=Ep n a b)
   have f2:=λh=>(⟨(f0.2 h).1,(f0.2 h).2.1,(f0.2 h).2.2.1⟩:Dp n a b=2/\DF n a b=0/\Ju n a b=0)
   have c1:=(OD hc).1;have c2:=(OD hc).2;clear f0;have cf:=XZ (n:=n) (a:=a) (b:=b) (by omega);have k1:=F.q0;have k2:=F.r0;have k3:=F.r1;have k5:=F.pos;have k6:=F.neg0;have k7:=F.neg1
   cases hq:CW n a b<;>simp only[hq,AlW,AlX,reduceCtorEq,false_implies,true_implies,and_true,true_and,false_and,and_false,implies_true]at o1 o2 ⊢
   all_goals (clear F; simp only[hc,bNe,bNot,bLt,iAdd,iSub,InR,decide_true,AlE,AlD,Amq,AmE,Ams,Amv,AlW,AlX,reduceCtorEq,not_true_eq_false,false_implies,true_implies,implies_true,and_true,true_and])
   all_goals
    generalize BJ n*a % b=R at*
    generalize Cm n a b=Q at*
    generalize Dp n a b=fE at*
    generalize DF n a b=fV at*
    generalize Ju n a b=rV at*
    generalize Di n a b=cE at*
    generalize Cb n a b=cV at*
    generalize EF n a b=ce at*
    generalize EE n a b=dF at*
    generalize FO n a b=dR at*
    generalize AB n a b=fl at*
    generalize Ep n a b=re at*
    generalize D9 n a b=ck at*
    repeat' (first|apply And.intro|intro _)
    all_goals (first|trivial|assumption|omega)
 · have bd:=SE hc;simp only[bNe,bNot,hc,bd,decide_false,decide_true,AmE,Amq,AlW,AlX,reduceCtorEq,false_implies,true_implies,implies_true,and_true,true_and]
def r142:Cr PR:=K0 [r205,r206] 142 6 {ps:=[(false,hI),(true,hII)],rs:=[(false,hI),(false,hI)],out:=λa=>[[.i (Cb (AnF a) (AnG a) (AnJ a))],[.i (Di (AnF a) (AnG a) (AnJ a))]]} U λa=>Y (v142 (AnF a) (AnG a) (AnJ a))
end Go.Sx

namespace Go
open Go.Sx
def EY (a b c d:Int):Int:=a/Ag a d*(c/Ag c b)
def EU (a b c d:Int):Int:=b/Ag c b*(d/Ag a d)
def Gj (a b c d:Int):Int:=if Ai a b=false∨Ai c d=false then 1 else if 68719476736<EY a b c d∨68719476736<EU a b c d then 2 else 0
def Es (a b c d v:Int):Int:=if Gj a b c d=0 then v else 0
def MR (a b:Int):Int:=bif Ai a b then 0 else 1
def Ec (a b v:Int):Int:=bif Ai a b then v else 0
def FX (a b c d:Int):Int:=if Ai a b=false∨Ai c d=false then 0 else if a*d<c*b then-1 else if a*d=c*b then 0 else 1
theorem Y7 (n a b:Int):(-4611686018427387904<=AB n a b/\AB n a b<=4611686018427387904->BG (AB n a b)=true/\FD n a b=AB n a b/\Gi n a b=Ep n a b)/\(¬(-4611686018427387904<=AB n a b/\AB n a b<=4611686018427387904)->BG (AB n a b)=false/\FD n a b=0/\Gi n a b=0):=by
 constructor
 · intro h;have e:BG (AB n a b)=true:=by unfold BG; simpa using h
   exact⟨e,by unfold FD; rw[e]; rfl,by unfold Gi; rw[e]; rfl⟩
 · intro h;have e:BG (AB n a b)=false:=by unfold BG; simp; omega
   exact⟨e,by unfold FD; rw[e]; rfl,by unfold Gi; rw[e]; rfl⟩
theorem RG (n a b:Int):(Ai a b=false->D9 n a b=1)/\(Ai a b=true->(n< -1125899906842624∨1125899906842624<n->D9 n a b=2)/\(-1125899906842624<=n/\n<=1125899906842624->D9 n a b=0)):=by
 unfold D9;refine⟨λh=>if_pos h,λh=>⟨λh1=> ?_,λh1=> ?_⟩⟩
 · rw[if_neg (by simp[h]),if_pos h1]
 · rw[if_neg (by simp[h]),if_neg (by omega)]
theorem ZB {a b:Int} (h1:1<=a) (h2:a<=68719476736) (h3:1<=b) (h4:b<=68719476736):CU a b=0:=by
 have h:=NH (a:=a) (b:=b) h1 h3;unfold CU;rw[if_neg (by omega),if_neg (by omega)]
theorem U4 {a b c d:Int} (h:Ai a b=true) (h':Ai c d=true):
 1<=a/Ag a d/\a/Ag a d<=68719476736/\1<=c/Ag c b/\c/Ag c b<=68719476736/\1<=b/Ag c b/\b/Ag c b<=68719476736/\1<=d/Ag a d/\d/Ag a d<=68719476736:=by
 have r:=DC h;have s:=DC h';have x:=NH (a:=a) (b:=d) (by omega) (by omega);have y:=NH (a:=c) (b:=b) (by omega) (by omega);omega
end Go
namespace Go.Sx
theorem v126 (n:Int) (a:Int) (b:Int):AnC n/\AnC a/\AnC b->True/\True/\Cn (bNot (Ai a b)) (0=DF n a b/\1=Dp n a b) (Cn (bLt n (-1125899906842624)) (0=DF n a b/\2=Dp n a b) (Cn (bLt 1125899906842624 n) (0=DF n a b/\2=Dp n a b) ((1<=a/\a<=68719476736/\1<=b/\b<=68719476736/\-1125899906842624<=n/\n<=1125899906842624)/\(AnC (FD n a b)/\AnC (Gi n a b)->True/\Cn (bNot (BG (AB n a b))) (0=DF n a b/\2=Dp n a b) (FD n a b=DF n a b/\0=Dp n a b))))):=by
 intro hw;simp only[Cn_iff,Abc,true_and];have hp:True:=trivial;simp only[Wfs,Wf,InR,and_true]at hw;have cc:=RG n a b
 cases hv:Ai a b
 · have e:=cc.1 hv;have bd:=SE (n:=n) (a:=a) (b:=b) (by omega);have r1:Dp n a b=1:=by rw[bd.1]; omega
   have r2:DF n a b=0:=by exact bd.2.1
   simp only[bNot,bNe,r1,r2,AmE,Amq,AlW,AlX,reduceCtorEq,false_implies,true_implies,implies_true,and_true,true_and]
 · by_cases hr: -1125899906842624<=n/\n<=1125899906842624
   · have hc:=(cc.2 hv).2 hr;have rv:=DC hv;have f0:=VQ hc;have f1:=λh=>(⟨(f0.1 h).1,(f0.1 h).2.1,(f0.1 h).2.2.1⟩:Dp n a b=0/\DF n a b=AB n a b/\Ju n a b=Ep n a b)
     have f2:=λh=>(⟨(f0.2 h).1,(f0.2 h).2.1,(f0.2 h).2.2.1⟩:Dp n a b=2/\DF n a b=0/\Ju n a b=0)
     have c1:=(OD hc).1;have c2:=(OD hc).2;have en:=UA (n:=n) (a:=a) (b:=b);have er:=Y7 n a b;simp only[iSub,Int.zero_sub,bLt,bNot,bNe,InR,decide_true,AlE,AlD,Amq,AmE,AlW,AlX,reduceCtorEq,not_true_eq_false,false_implies,true_implies,implies_true,and_true,true_and];clear f0 cc hw hp;by_cases hin: -4611686018427387904<=AB n a b/\AB n a b<=4611686018427387904
     · have er:=er.1 hin;simp only[er,decide_true,Amq,AlW,AlX,reduceCtorEq,false_implies,true_implies,implies_true,and_true,true_and]
       repeat' (first|apply And.intro|intro _)
       all_goals (first|trivial|assumption|omega)
     · have er:=er.2 hin;simp only[er,AmE,AlW,AlX,reduceCtorEq,false_implies,true_implies,implies_true,and_true,true_and]
       repeat' (first|apply And.intro|intro _)
       all_goals (first|trivial|assumption|omega)
   · have e:=(cc.2 hv).1 (by omega);have bd:=SE (n:=n) (a:=a) (b:=b) (by omega);have r1:Dp n a b=2:=by rw[bd.1]; omega
     have r2:DF n a b=0:=by exact bd.2.1
     simp only[bNot,bNe,bLt,r1,r2,AlE,AlD,AmE,Amq,AlW,AlX,reduceCtorEq,false_implies,true_implies,implies_true,and_true,true_and]
     repeat' (first|apply And.intro|intro _)
     all_goals (first|trivial|omega)
def r126:Cr PR:=K0 [r143,r161] 126 6 {ps:=[(false,hI),(true,hII)],rs:=[(false,hI),(false,hI)],out:=λa=>[[.i (DF (AnF a) (AnG a) (AnJ a))],[.i (Dp (AnF a) (AnG a) (AnJ a))]]} U λa=>Y (v126 (AnF a) (AnG a) (AnJ a))
theorem v96 (n:Int) (a:Int) (b:Int):AnC n/\AnC a/\AnC b->True/\True/\Cn (bNot (Ai a b)) (0=Cb n a b/\1=Di n a b) (Cn (bLt n (-1125899906842624)) (0=Cb n a b/\2=Di n a b) (Cn (bLt 1125899906842624 n) (0=Cb n a b/\2=Di n a b) (AnC (iSub 0 n)/\(1<=a/\a<=68719476736/\1<=b/\b<=68719476736/\-1125899906842624<=iSub 0 n/\iSub 0 n<=1125899906842624)/\(AnC (FD (iSub 0 n) a b)/\AnC (Gi (iSub 0 n) a b)->True/\Cn (bNot (BG (AB (iSub 0 n) a b))) (0=Cb n a b/\2=Di n a b) (AnC (iSub 0 (FD (iSub 0 n) a b))/\iSub 0 (FD (iSub 0 n) a b)=Cb n a b/\0=Di n a b))))):=by
 intro hw;simp only[Cn_iff,Abc,true_and];have hp:True:=trivial;simp only[Wfs,Wf,InR,and_true]at hw;have cc:=RG n a b
 cases hv:Ai a b
 · have e:=cc.1 hv;have bd:=SE (n:=n) (a:=a) (b:=b) (by omega);have r1:Di n a b=1:=by rw[bd.2.2.2.1]; omega
   have r2:Cb n a b=0:=by exact bd.2.2.2.2
   simp only[bNot,bNe,r1,r2,AmE,Amq,AlW,AlX,reduceCtorEq,false_implies,true_implies,implies_true,and_true,true_and]
 · by_cases hr: -1125899906842624<=n/\n<=1125899906842624
   · have hc:=(cc.2 hv).2 hr;have rv:=DC hv;have f0:=VQ hc;have f1:=λh=>(⟨(f0.1 h).1,(f0.1 h).2.1,(f0.1 h).2.2.1⟩:Dp n a b=0/\DF n a b=AB n a b/\Ju n a b=Ep n a b)
     have f2:=λh=>(⟨(f0.2 h).1,(f0.2 h).2.1,(f0.2 h).2.2.1⟩:Dp n a b=2/\DF n a b=0/\Ju n a b=0)
     have c1:=(OD hc).1;have c2:=(OD hc).2;have en:=UA (n:=n) (a:=a) (b:=b);have er:=Y7 (-n) a b;simp only[iSub,Int.zero_sub,bLt,bNot,bNe,InR,decide_true,AlE,AlD,Amq,AmE,AlW,AlX,reduceCtorEq,not_true_eq_false,false_implies,true_implies,implies_true,and_true,true_and];clear f0 cc hw hp;by_cases hin: -4611686018427387904<=AB (-n) a b/\AB (-n) a b<=4611686018427387904
     · have er:=er.1 hin;simp only[er,decide_true,Amq,AlW,AlX,reduceCtorEq,false_implies,true_implies,implies_true,and_true,true_and]
       repeat' (first|apply And.intro|intro _)
       all_goals (first|trivial|assumption|omega)
     · have er:=er.2 hin;simp only[er,AmE,AlW,AlX,reduceCtorEq,false_implies,true_implies,implies_true,and_true,true_and]
       repeat' (first|apply And.intro|intro _)
       all_goals (first|trivial|assumption|omega)
   · have e:=(cc.2 hv).1 (by omega);have bd:=SE (n:=n) (a:=a) (b:=b) (by omega);have r1:Di n a b=2:=by rw[bd.2.2.2.1]; omega
     have r2:Cb n a b=0:=by exact bd.2.2.2.2
     simp only[bNot,bNe,bLt,r1,r2,AlE,AlD,AmE,Amq,AlW,AlX,reduceCtorEq,false_implies,true_implies,implies_true,and_true,true_and]
     repeat' (first|apply And.intro|intro _)
     all_goals (first|trivial|omega)
def r96:Cr PR:=K0 [r143,r161] 96 6 {ps:=[(false,hI),(true,hII)],rs:=[(false,hI),(false,hI)],out:=λa=>[[.i (Cb (AnF a) (AnG a) (AnJ a))],[.i (Di (AnF a) (AnG a) (AnJ a))]]} U λa=>Y (v96 (AnF a) (AnG a) (AnJ a))
theorem v141 (p:Int) (q:Int):AnC p/\AnC q->Cn (bLt p 1) (0=Aq p q p/\0=Aq p q q/\1=CU p q) (Cn (bLt q 1) (0=Aq p q p/\0=Aq p q q/\1=CU p q) ((0<p/\0<=q)/\(AnC (Ag p q)->(pNe (Ag p q) 0/\AnC (iQuo p (Ag p q)))/\(pNe (Ag p q) 0/\AnC (iQuo q (Ag p q)))/\Cn (bLt 68719476736 (iQuo p (Ag p q))) (0=Aq p q p/\0=Aq p q q/\2=CU p q) (Cn (bLt 68719476736 (iQuo q (Ag p q))) (0=Aq p q p/\0=Aq p q q/\2=CU p q) (iQuo p (Ag p q)=Aq p q p/\iQuo q (Ag p q)=Aq p q q/\0=CU p q))))):=by
 intro hw;simp only[Cn_iff,Abc,true_and];simp only[Wfs,Wf,InR,and_true]at hw;by_cases h:p<1∨q<1
 · have e:CU p q=1:=by unfold CU; rw[if_pos h]
   have f:∀v,Aq p q v=0:=λv=>by unfold Aq; rw[if_neg (by omega)]
   simp only[e,f,bLt,bLe,AlE,AlD]
   repeat' (first|apply And.intro|intro _)
   all_goals (first|trivial|omega)
 · have g:=NH (a:=p) (b:=q) (by omega) (by omega);have g1:=J9 (a:=p) (b:=q) (by omega);have t1:iQuo p (Ag p q)=p/Ag p q:=AlI (by omega);have t2:iQuo q (Ag p q)=q/Ag p q:=AlI (by omega);have e:CU p q=if 68719476736<p/Ag p q∨68719476736<q/Ag p q then 2 else 0:=by unfold CU; rw[if_neg h]
   have f:∀v,Aq p q v=if CU p q=0 then v/Ag p q else 0:=λv=>rfl;simp only[t1,t2,f,e];generalize p/Ag p q=P at*;generalize q/Ag p q=Q at*;simp only[bLt,bLe,pNe,InR,AlE,AlD]
   repeat' (first|apply And.intro|intro _)
   all_goals (first|trivial|omega|(split<;>first|omega|(split<;>omega)))
def r141:Cr PR:=K0 [r200] 141 6 {ps:=[(false,hI),(false,hI)],rs:=[(true,hII),(false,hI)],out:=λa=>[[.i (Aq (AnF a) (AnG a) (AnF a)),.i (Aq (AnF a) (AnG a) (AnG a))],[.i (CU (AnF a) (AnG a))]]} U λa=>Y (v141 (AnF a) (AnG a))
theorem v100 (p:Int) (q:Int):AnC p/\AnC q->Cn (bLt p 1) (0=Aq p q p/\0=Aq p q q/\1=CU p q) (Cn (bLt q 1) (0=Aq p q p/\0=Aq p q q/\1=CU p q) ((0<p/\0<=q)/\(AnC (Ag p q)->(pNe (Ag p q) 0/\AnC (iQuo p (Ag p q)))/\(pNe (Ag p q) 0/\AnC (iQuo q (Ag p q)))/\Cn (bLt 68719476736 (iQuo p (Ag p q))) (0=Aq p q p/\0=Aq p q q/\2=CU p q) (Cn (bLt 68719476736 (iQuo q (Ag p q))) (0=Aq p q p/\0=Aq p q q/\2=CU p q) (iQuo p (Ag p q)=Aq p q p/\iQuo q (Ag p q)=Aq p q q/\0=CU p q))))):=by
 intro hw;simp only[Cn_iff,Abc,true_and];simp only[Wfs,Wf,InR,and_true]at hw;by_cases h:p<1∨q<1
 · have e:CU p q=1:=by unfold CU; rw[if_pos h]
   have f:∀v,Aq p q v=0:=λv=>by unfold Aq; rw[if_neg (by omega)]
   simp only[e,f,bLt,bLe,AlE,AlD]
   repeat' (first|apply And.intro|intro _)
   all_goals (first|trivial|omega)
 · have g:=NH (a:=p) (b:=q) (by omega) (by omega);have g1:=J9 (a:=p) (b:=q) (by omega);have t1:iQuo p (Ag p q)=p/Ag p q:=AlI (by omega);have t2:iQuo q (Ag p q)=q/Ag p q:=AlI (by omega);have e:CU p q=if 68719476736<p/Ag p q∨68719476736<q/Ag p q then 2 else 0:=by unfold CU; rw[if_neg h]
   have f:∀v,Aq p q v=if CU p q=0 then v/Ag p q else 0:=λv=>rfl;simp only[t1,t2,f,e];generalize p/Ag p q=P at*;generalize q/Ag p q=Q at*;simp only[bLt,bLe,pNe,InR,AlE,AlD]
   repeat' (first|apply And.intro|intro _)
   all_goals (first|trivial|omega|(split<;>first|omega|(split<;>omega)))
def r100:Cr PR:=K0 [r159] 100 6 {ps:=[(false,hI),(false,hI)],rs:=[(true,hII),(false,hI)],out:=λa=>[[.i (Aq (AnF a) (AnG a) (AnF a)),.i (Aq (AnF a) (AnG a) (AnG a))],[.i (CU (AnF a) (AnG a))]]} U λa=>Y (v100 (AnF a) (AnG a))
theorem v140 (a:Int) (b:Int):AnC a/\AnC b->True/\True/\Cn (bNot (Ai a b)) (0=Ec a b b/\0=Ec a b a/\1=MR a b) (b=Ec a b b/\a=Ec a b a/\0=MR a b):=by
 intro hw;simp only[Cn_iff,Abc,true_and];unfold Ec MR
 cases Ai a b<;>simp[bNot]
def r140:Cr PR:=K0 [r133] 140 6 {ps:=[(true,hII)],rs:=[(true,hII),(false,hI)],out:=λa=>[[.i (Ec (AnF a) (AnH a) (AnH a)),.i (Ec (AnF a) (AnH a) (AnF a))],[.i (MR (AnF a) (AnH a))]]} U λa=>Y (v140 (AnF a) (AnH a))
theorem v99 (a:Int) (b:Int):AnC a/\AnC b->True/\True/\Cn (bNot (Ai a b)) (0=Ec a b b/\0=Ec a b a/\1=MR a b) (b=Ec a b b/\a=Ec a b a/\0=MR a b):=by
 intro hw;simp only[Cn_iff,Abc,true_and];unfold Ec MR
 cases Ai a b<;>simp[bNot]
def r99:Cr PR:=K0 [r143] 99 6 {ps:=[(true,hII)],rs:=[(true,hII),(false,hI)],out:=λa=>[[.i (Ec (AnF a) (AnH a) (AnH a)),.i (Ec (AnF a) (AnH a) (AnF a))],[.i (MR (AnF a) (AnH a))]]} U λa=>Y (v99 (AnF a) (AnH a))
end Go.Sx

namespace Go
open Go.Sx
def YK (p q:Int):Bool:=decide (p*q<=68719476736)
def Y2 (p q:Int):Int:=IntKind.i64.wrap (BD p q)
theorem Yd (p q:Int):p*q=BM p q*18446744073709551616+BD p q/\0<=BD p q/\BD p q<18446744073709551616:=by unfold BM BD; omega
theorem VW {p q:Int} (h0:0<=p*q) (h:p*q<=68719476736):Y2 p q=p*q:=by
 have:=Yd p q;have e:BD p q=p*q:=by omega
 unfold Y2; rw[e];exact InR.wrap (by simp only[InR]; omega)
end Go
namespace Go.Sx
theorem v90 (a:Int) (b:Int) (c:Int) (d:Int):AnC a/\AnC b/\AnC c/\AnC d->True/\True/\Cn (bNot (Ai a b)) (0=Es a b c d (EY a b c d)/\0=Es a b c d (EU a b c d)/\1=Gj a b c d) (True/\True/\Cn (bNot (Ai c d)) (0=Es a b c d (EY a b c d)/\0=Es a b c d (EU a b c d)/\1=Gj a b c d) ((0<a/\0<=d)/\(AnC (Ag a d)->(0<c/\0<=b)/\(AnC (Ag c b)->(pNe (Ag a d) 0/\AnC (iQuo a (Ag a d)))/\(pNe (Ag c b) 0/\AnC (iQuo c (Ag c b)))/\(pNe (Ag c b) 0/\AnC (iQuo b (Ag c b)))/\(pNe (Ag a d) 0/\AnC (iQuo d (Ag a d)))/\(pNe (iQuo c (Ag c b)) 0/\AnC (iQuo 68719476736 (iQuo c (Ag c b))))/\Cn (bLt (iQuo 68719476736 (iQuo c (Ag c b))) (iQuo a (Ag a d))) (0=Es a b c d (EY a b c d)/\0=Es a b c d (EU a b c d)/\2=Gj a b c d) ((pNe (iQuo d (Ag a d)) 0/\AnC (iQuo 68719476736 (iQuo d (Ag a d))))/\Cn (bLt (iQuo 68719476736 (iQuo d (Ag a d))) (iQuo b (Ag c b))) (0=Es a b c d (EY a b c d)/\0=Es a b c d (EU a b c d)/\2=Gj a b c d) (AnC (iMul (iQuo a (Ag a d)) (iQuo c (Ag c b)))/\AnC (iMul (iQuo b (Ag c b)) (iQuo d (Ag a d)))/\iMul (iQuo a (Ag a d)) (iQuo c (Ag c b))=Es a b c d (EY a b c d)/\iMul (iQuo b (Ag c b)) (iQuo d (Ag a d))=Es a b c d (EU a b c d)/\0=Gj a b c d)))))):=by
 intro hw;simp only[Cn_iff,Abc,true_and];simp only[Wfs,Wf,InR,and_true]at hw
 cases hv:Ai a b
 · have e:Gj a b c d=1:=by unfold Gj; rw[if_pos (.inl hv)]
   have f:∀v,Es a b c d v=0:=λv=>by unfold Es; rw[if_neg (by omega)]
   simp[bNot,e,f]
 · cases hw':Ai c d
   · have e:Gj a b c d=1:=by unfold Gj; rw[if_pos (.inr hw')]
     have f:∀v,Es a b c d v=0:=λv=>by unfold Es; rw[if_neg (by omega)]
     simp[bNot,e,f]
   · have r := DC hv;have s := DC hw';have g1 := J9 (a := a) (b := d) (by omega);have g2 := J9 (a := c) (b := b) (by omega);have k := U4 hv hw';have eX : EY a b c d = a / Ag a d * (c / Ag c b) := rfl;have eY : EU a b c d = b / Ag c b * (d / Ag a d) := rfl;have t1 : iQuo a (Ag a d) = a / Ag a d := AlI (by omega);have t2 : iQuo c (Ag c b) = c / Ag c b := AlI (by omega);have t3 : iQuo b (Ag c b) = b / Ag c b := AlI (by omega);have t4 : iQuo d (Ag a d) = d / Ag a d := AlI (by omega);have mX := Aa8 (x := a / Ag a d) (X := 68719476736) (y := c / Ag c b) (Y := 68719476736) (by omega) (by omega) (by omega) (by omega);have mY := Aa8 (x := b / Ag c b) (X := 68719476736) (y := d / Ag a d) (Y := 68719476736) (by omega) (by omega) (by omega) (by omega);have vX := VW mX.1;have vY := VW mY.1;have oX : YK (a / Ag a d) (c / Ag c b) = decide (a / Ag a d * (c / Ag c b) <= 68719476736) := rfl;have oY : YK (b / Ag c b) (d / Ag a d) = decide (b / Ag c b * (d / Ag a d) <= 68719476736) := rfl;have d1 : iQuo 68719476736 (c / Ag c b) < a / Ag a d ↔ 68719476736 < a / Ag a d * (c / Ag c b) := by
      rw[show iQuo 68719476736 (c/Ag c b)=68719476736/(c/Ag c b)from AlI (by omega)];exact Int.ediv_lt_iff_lt_mul (by omega)
     have d2:iQuo 68719476736 (d/Ag a d)<b/Ag c b↔68719476736<b/Ag c b*(d/Ag a d):=by
      rw[show iQuo 68719476736 (d/Ag a d)=68719476736/(d/Ag a d)from AlI (by omega)];exact Int.ediv_lt_iff_lt_mul (by omega)
     have b1:AnC (iQuo 68719476736 (c/Ag c b)):=by
      have q0:=Al8 (a:=68719476736) (b:=c/Ag c b) (by omega) (by omega);have q1:=Amy (a:=68719476736) (c/Ag c b) (by omega);rw[show iQuo 68719476736 (c/Ag c b)=68719476736/(c/Ag c b)from AlI (by omega)];simp only[InR]; omega
     have b2:AnC (iQuo 68719476736 (d/Ag a d)):=by
      have q0:=Al8 (a:=68719476736) (b:=d/Ag a d) (by omega) (by omega);have q1:=Amy (a:=68719476736) (d/Ag a d) (by omega);rw[show iQuo 68719476736 (d/Ag a d)=68719476736/(d/Ag a d)from AlI (by omega)];simp only[InR]; omega
     have e:Gj a b c d=if 68719476736<EY a b c d∨68719476736<EU a b c d then 2 else 0:=by unfold Gj; rw[if_neg (by simp[hv,hw'])]
     have f:∀v,Es a b c d v=if Gj a b c d=0 then v else 0:=λv=>rfl;simp only[t1,t2,t3,t4,f,e,eX,eY,oX,oY];simp only[bNot,iMul,Amq,AmE,Ams,Amv,bLt,AlE,AlD,AlW,AlX,reduceCtorEq,false_implies,true_implies,implies_true,true_and,and_true,d1,d2];generalize a/Ag a d=X at*;generalize c/Ag c b=Y at*;generalize b/Ag c b=U at*;generalize d/Ag a d=W at*;generalize X*Y=XY at*;generalize U*W=UW at*;generalize iQuo 68719476736 Y=i1 at*;generalize iQuo 68719476736 W=i2 at*;simp only[pNe,iMul,InR]at*
     repeat' (first|apply And.intro|intro _)
     all_goals (first|trivial|omega|(rw[vX (by omega),if_pos (by rw[if_neg (by omega)])])|(rw[vY (by omega),if_pos (by rw[if_neg (by omega)])])|(split<;>first|omega|(split<;>omega))|skip)
def r90:Cr PR:=K0 [r143,r159] 90 6 {ps:=[(true,hII),(true,hII)],rs:=[(true,hII),(false,hI)],out:=λa=>[[.i (Es (AnF a) (AnH a) (AnG a) (AnJ a) (EY (AnF a) (AnH a) (AnG a) (AnJ a))),.i (Es (AnF a) (AnH a) (AnG a) (AnJ a) (EU (AnF a) (AnH a) (AnG a) (AnJ a)))],[.i (Gj (AnF a) (AnH a) (AnG a) (AnJ a))]]} U λa=>Y (v90 (AnF a) (AnH a) (AnG a) (AnJ a))
def Aec (a:Int) (d:Int):Int:=(BM (Aa3 .u64 a) (Aa3 .u64 d))
def Aeb (b:Int) (c:Int):Int:=(BM (Aa3 .u64 c) (Aa3 .u64 b))
theorem v156 (a:Int) (b:Int) (c:Int) (d:Int):AnC a/\AnC b/\AnC c/\AnC d->True/\True/\Cn (bNot (Ai a b)) (0=FX a b c d) (True/\True/\Cn (bNot (Ai c d)) (0=FX a b c d) (True/\(AnD (Aec a d)/\AnD (BD (Aa3 .u64 a) (Aa3 .u64 d))->True/\(AnD (Aeb b c)/\AnD (BD (Aa3 .u64 c) (Aa3 .u64 b))->Cn (bLt (Aec a d) (Aeb b c)) (-1=FX a b c d) (Cn (bEq (Aec a d) (Aeb b c)) (Cn (bLt (BD (Aa3 .u64 a) (Aa3 .u64 d)) (BD (Aa3 .u64 c) (Aa3 .u64 b))) (-1=FX a b c d) (Cn (bLt (Aeb b c) (Aec a d)) (1=FX a b c d) (Cn (bEq (Aec a d) (Aeb b c)) (Cn (bLt (BD (Aa3 .u64 c) (Aa3 .u64 b)) (BD (Aa3 .u64 a) (Aa3 .u64 d))) (1=FX a b c d) (0=FX a b c d)) (0=FX a b c d)))) (Cn (bLt (Aeb b c) (Aec a d)) (1=FX a b c d) (Cn (bEq (Aec a d) (Aeb b c)) (Cn (bLt (BD (Aa3 .u64 c) (Aa3 .u64 b)) (BD (Aa3 .u64 a) (Aa3 .u64 d))) (1=FX a b c d) (0=FX a b c d)) (0=FX a b c d)))))))):=by
 intro hw;delta Aec Aeb;simp only[Cn_iff,Abc,true_and];simp only[Wfs,Wf,InR,and_true]at hw;have e:FX a b c d=if Ai a b=false∨Ai c d=false then 0 else if a*d<c*b then-1 else if a*d=c*b then 0 else 1:=rfl
 cases hv:Ai a b
 · simp[bNot,e,hv]
 · cases hw':Ai c d
   · simp[bNot,e,hw']
   · have r:=DC hv;have s:=DC hw';have w1:Aa3 .u64 a=a:=BH (by omega) (by omega);have w2:Aa3 .u64 b=b:=BH (by omega) (by omega);have w3:Aa3 .u64 c=c:=BH (by omega) (by omega);have w4:Aa3 .u64 d=d:=BH (by omega) (by omega);have l1:=Yd a d;have l2:=Yd c b;rw[if_neg (by simp[hv,hw'])]at e;rw[w1,w2,w3,w4,e];generalize BM a d=h1 at*;generalize BD a d=m1 at*;generalize BM c b=h2 at*;generalize BD c b=m2 at*;generalize a*d=p at*;generalize c*b=q at*;simp only[bNot,bLt,bEq,Amq,AmE,Ams,Amv,AlE,AlD,AlW,AlX,reduceCtorEq,false_implies,true_implies,implies_true,true_and,and_true]
     repeat' (first|apply And.intro|intro _)
     all_goals (first|trivial|omega|(rw[if_pos (by omega)])|(rw[if_neg (by omega),if_pos (by omega)])|(rw[if_neg (by omega),if_neg (by omega)]))
def r156:Cr PR:=K0 [r143,r202] 156 6 {ps:=[(true,hII),(true,hII)],rs:=[(false,hI)],out:=λa=>[[.i (FX (AnF a) (AnH a) (AnG a) (AnJ a))]]} U λa=>Y (v156 (AnF a) (AnH a) (AnG a) (AnJ a))
end Go.Sx

