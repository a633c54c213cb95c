import Derived.Test.YtejdbdegdanecaaGreatSxUse
import Derived.Test.YtejdbdegdanecaaGreatProg
import Derived.Lib.Mul64
set_option linter.unusedVariables false
set_option linter.unusedSimpArgs false
set_option maxRecDepth 100000
set_option maxHeartbeats 4000000
namespace Go.Sx
open Go.RowKit
theorem Aa8:Go.Proofs.Tryz.prog.follows .mixedOrders=true:=by kernel_rfl
end Go.Sx
noncomputable section
namespace Go.Sx
noncomputable section
noncomputable abbrev PR:Program:=Go.Proofs.Tryz.prog
def U:List (List C)->FuncId->Nat->LoopAnn:=λ_ _ _=> .unroll 200
def Kw (wr:FuncId->Bool) (u:List (Cr PR)) (f n:Nat) (ct:Ct) (A:List (List C)->FuncId->Nat->LoopAnn)
 (h:∀args,AdE (hyp (wfP.go (ofRess ct.ps args)) (ct.pre args->vcF PR (look (tbR u)) wr (A args) n f (ofRess ct.ps args) [] λsv heap=>Gives ct.rs (ct.out args) sv heap)))
 (hbx:ct.bx=none:=by rfl) (hrs:ct.rs.isEmpty=false:=by rfl) (how:ct.ow=none:=by rfl) (hfr:ct.fr=none:=by rfl):Cr PR:=
 ⟨f,ct,Af5 Aa8 (AdQ u) wr A n f ct h hbx hrs how hfr⟩
def K (u:List (Cr PR)) (f n:Nat) (ct:Ct) (A:List (List C)->FuncId->Nat->LoopAnn)
 (h:∀args,AdE (hyp (wfP.go (ofRess ct.ps args)) (ct.pre args->vcF PR (look (tbR u)) (λ_=>false) (A args) n f (ofRess ct.ps args) [] λsv heap=>Gives ct.rs (ct.out args) sv heap)))
 (hbx:ct.bx=none:=by rfl) (hrs:ct.rs.isEmpty=false:=by rfl) (how:ct.ow=none:=by rfl) (hfr:ct.fr=none:=by rfl):Cr PR:=
 ⟨f,ct,Af5 Aa8 (AdQ u) (λ_=>false) A n f ct h hbx hrs how hfr⟩
theorem AiA:∀ {l:List Prop} {p k:Prop},hyp l k->hyp l (p->k)
 |[],_,_,h=>λ_=>h
 |_::_,_,_,h=>λha _=>h ha
def K0 (u:List (Cr PR)) (f n:Nat) (ct:Ct) (A:List (List C)->FuncId->Nat->LoopAnn)
 (h:∀args,AdE (hyp (wfP.go (ofRess ct.ps args)) (vcF PR (look (tbR u)) (λ_=>false) (A args) n f (ofRess ct.ps args) [] λsv heap=>Gives ct.rs (ct.out args) sv heap)))
 (hbx:ct.bx=none:=by rfl) (hrs:ct.rs.isEmpty=false:=by rfl) (how:ct.ow=none:=by rfl) (hfr:ct.fr=none:=by rfl):Cr PR:=
 K u f n ct A (λa=>⟨AiA (h a).out⟩) hbx hrs how hfr
def KB (u:List (Cr PR)) (f n:Nat) (ct:Ct) {t:TypeId} {e:List Sh} (A:List (List C)->FuncId->Nat->LoopAnn)
 (h:∀args,AdE (hyp (wfP.go (ofRess ((true,e)::ct.ps) args)) (ct.pre args->vcF PR (look (tbR u)) (λ_=>false) (A args) n f (.ref 0 0::ofRess ct.ps args.tail) [.box (ofCs e (args.headD [])) t] λsv heap=>GivesB t e ct.rs (ct.out args) sv heap)))
 (hbx:ct.bx=some (t,e):=by rfl) (hrs:ct.rs.isEmpty=false:=by rfl):Cr PR:=
 ⟨f,ct,AhA Aa8 (AdQ u) (λ_=>false) A n f ct h hbx hrs⟩
def mark (n:Nat):Cr PR:=⟨n,{ps:=[],rs:=[],pre:=λ_=>False,out:=λ_=>[]},
 ⟨λ_ _ h=>False.elim h,λ_ _ _ _ _ _ _ _ _ h _=>False.elim h,λt e h=>(by cases h),λt e r _ h=>(by cases h),λt e _ _ h=>(by cases h)⟩⟩
theorem D:(∀ {α:Type} {x:α},Sm x↔True)/\(∀ {b X Y},Cn b X Y↔(b=true->X)/\(b=false->Y))/\(∀a b,iAdd a b=a+b)/\(∀a b,iSub a b=a-b)/\(∀a b,iMul a b=a*b)/\(∀a b,iQuo a b=a.tdiv b)/\(∀a b,iRem a b=a.tmod b)
 /\(∀a b,iMin a b=min a b)/\(∀a b,iMax a b=max a b)/\(∀ {α:Type} (l:List α),iLen l=l.length)/\(∀a b n,pIn a b n↔a<=n/\n<b)/\(∀a b,pNe a b↔a≠b)/\(∀a b,pLe a b↔a<=b)/\(∀a b,nLt a b↔a<b)/\(∀b n,Aar b n↔n*(b:Int)<=140737488355328):=
 ⟨Aas,Cn_iff,λ_ _=>rfl,λ_ _=>rfl,λ_ _=>rfl,λ_ _=>rfl,λ_ _=>rfl,λ_ _=>rfl,λ_ _=>rfl,λ_=>rfl,λ_ _ _=>Iff.rfl,λ_ _=>Iff.rfl,λ_ _=>Iff.rfl,λ_ _=>Iff.rfl,λ_ _=>Iff.rfl⟩
theorem E:(∀p:Prop,(True/\p)=p)/\(∀p:Prop,(p/\True)=p)/\(∀p:Prop,(True->p)=p)/\(∀a b,bEq a b=decide (a=b))/\(∀a b,bNe a b= !decide (a=b))/\(∀a b,bLt a b=decide (a<b))/\(∀a b,bLe a b=decide (a<=b))/\(∀a,bNot a= !a)/\(∀p [Decidable p],(decide p=true)=p)/\(∀p [Decidable p],(decide p=false)=¬p)
 /\(∀b:Bool,((!b)=true)=(b=false))/\(∀b:Bool,((!b)=false)=(b=true))/\(∀a b:Bool,bAnd a b=(a&&b)):=
 ⟨λ_=>true_and _,λ_=>and_true _,λp=>propext ⟨λh=>h trivial,λh _=>h⟩,λ_ _=>rfl,λ_ _=>rfl,λ_ _=>rfl,λ_ _=>rfl,λ_=>rfl,λp _=>by simp,λp _=>by simp,λb=>by cases b<;>simp,λb=>by cases b<;>simp,λ_ _=>rfl⟩
end
end Go.Sx
namespace Go.Sx
abbrev hS:List Sh:=[.int .i64,.int .i64,.int .i64]
end Go.Sx
namespace Go.Sx
abbrev hP:List Sh:=[.int .i64,.int .i64,.int .i64,.int .i64,.int .i64]
end Go.Sx
namespace Go.Sx
abbrev hR:List Sh:=[.int .i64,.int .i64,.int .i64,.int .i64,.int .i64,.int .i64,.sl hW]
end Go.Sx
namespace Go.Sx
abbrev hG:List Sh:=[.int .i64,.int .i64,.int .i64,.int .i64,.int .i64,.int .i64,.int .i64,.int .i64,.int .i64,.int .i64,.int .i64,.sl hW,.int .i64,.int .i64]
end Go.Sx
namespace Go.Sx
abbrev hM:List Sh:=[.sl hL]
end Go.Sx
namespace Go.Sx
abbrev hX:List Sh:=[.int .i64,.sl hII,.sl hL,.sl hII]
end Go.Sx
namespace Go.Sx
abbrev hD:List Sh:=[.int .u64,.str,.int .i64,.int .i64,.int .i64,.int .i64,.int .i64,.sl hX]
end Go.Sx
namespace Go.Sx
abbrev hC:List Sh:=[.int .i64,.int .i64,.sl hI,.int .i64]
end Go.Sx
namespace Go.Sx
abbrev hV:List Sh:=[.int .u64,.str,.int .i64,.int .i64,.int .i64,.int .i64,.int .i64,.sl hX,.int .i64,.int .i64,.sl hI,.int .i64,.int .i64,.int .i64,.sl hS,.bool,.int .i64,.int .i64,.int .i64,.int .i64,.int .i64,.int .i64,.int .i64,.int .i64,.int .i64,.int .i64,.int .i64,.int .i64,.sl hW,.int .i64,.int .i64]
end Go.Sx
namespace Go
open Go.Sx
def ES (f:List C->Bool) (xs:List (List C)) (i:Int):Prop:=0<=i/\i<=(xs.length:Int)/\(xs.drop i.toNat).all f=xs.all f
def Dn (f:List C->Bool) (xs:List (List C)) (i:Int):Prop:=0<=i/\i<=(xs.length:Int)/\(xs.drop i.toNat).any f=xs.any f
def Dk (g:List C->List C->Bool) (xs:List (List C)) (ys:List (List C)):Bool:=
 match xs,ys with
 |[],[]=>true
 |x::r,y::s=>g x y&&Dk g r s
 |_,_=>false
def Iz (g:List C->List C->Bool) (xs:List (List C)) (ys:List (List C)) (i:Int):Prop:=0<=i/\i<=(xs.length:Int)/\xs.length=ys.length/\Dk g (xs.drop i.toNat) (ys.drop i.toNat)=Dk g xs ys
end Go
namespace Go.Sx
theorem lpA {I:Int->Prop} {xs:List (List C)} {B:Int->Prop} {E:Int->Prop} (h0:I 0) (hp:∀x,I x->0<=x) (hb:∀x,I x->0<=x->x<(xs.length:Int)->B x) (he:∀x,I x->¬x<(xs.length:Int)->E x):
 (∃(x:Int),I x/\0=x)/\∀(x:Int),I x->InR .i64 x->(x<(xs.length:Int)->(0<=x/\x<(xs.length:Int))/\B x)/\(¬x<(xs.length:Int)->E x):=
 ⟨⟨0,h0,rfl⟩,λx h _=>⟨λhl=>⟨⟨hp x h,hl⟩,hb x h (hp x h) hl⟩,λhl=>he x h hl⟩⟩
theorem inS {x:Int} {e:List Sh} {xs:List (List C)} (hw:WL e xs) (h0:0<=x) (h:x<(xs.length:Int)):InR .i64 (x+1):=by
 have:=hw.1;simp only[InR]; omega
theorem Aaq {xs:List (List C)} {k:Int} (h0:0<=k) (h1:k<(xs.length:Int)):xs.drop k.toNat=rGet xs k::xs.drop (k+1).toNat:=by
 rw[List.drop_eq_getElem_cons (show k.toNat<xs.length by omega),show(k+1).toNat=k.toNat+1 by omega];congr 1;simp[rGet,List.getD_eq_getElem?_getD,show k.toNat<xs.length by omega]
section
variable {f:List C->Bool} {xs:List (List C)} {i:Int}
theorem al0:ES f xs 0:=⟨Int.le_refl _,by omega,rfl⟩
theorem alN (h:ES f xs i) (hi:i<(xs.length:Int)) (hf:f (rGet xs i)=true):ES f xs (i+1):=by
 obtain⟨h0,h1,h2⟩:=h;refine⟨by omega,by omega,?_⟩;rw[←h2,Aaq h0 hi,List.all_cons,hf,Bool.true_and]
theorem alB (h:ES f xs i) (hi:i<(xs.length:Int)) (hf:f (rGet xs i)=false):false=xs.all f:=by
 obtain⟨h0,h1,h2⟩:=h;rw[←h2,Aaq h0 hi,List.all_cons,hf,Bool.false_and]
theorem alE (h:ES f xs i) (hi:¬i<(xs.length:Int)):true=xs.all f:=by
 obtain⟨h0,h1,h2⟩:=h;rw[←h2,List.drop_eq_nil_of_le (by omega)]; rfl
theorem ex0:Dn f xs 0:=⟨Int.le_refl _,by omega,rfl⟩
theorem exN (h:Dn f xs i) (hi:i<(xs.length:Int)) (hf:f (rGet xs i)=false):Dn f xs (i+1):=by
 obtain⟨h0,h1,h2⟩:=h;refine⟨by omega,by omega,?_⟩;rw[←h2,Aaq h0 hi,List.any_cons,hf,Bool.false_or]
theorem exB (h:Dn f xs i) (hi:i<(xs.length:Int)) (hf:f (rGet xs i)=true):true=xs.any f:=by
 obtain⟨h0,h1,h2⟩:=h;rw[←h2,Aaq h0 hi,List.any_cons,hf,Bool.true_or]
theorem exE (h:Dn f xs i) (hi:¬i<(xs.length:Int)):false=xs.any f:=by
 obtain⟨h0,h1,h2⟩:=h;rw[←h2,List.drop_eq_nil_of_le (by omega)]; rfl
end
section
variable {g:List C->List C->Bool} {xs ys:List (List C)} {i:Int}
theorem rlL:∀ {xs ys:List (List C)},¬xs.length=ys.length->false=Dk g xs ys
 |[],[],h=>(h rfl).elim
 |[],_::_,_=>rfl
 |_::_,[],_=>rfl
 |x::r,y::s,h=>by
  have:=rlL (xs:=r) (ys:=s) (by simpa using h);simp only[Dk,←this,Bool.and_false]
theorem rl0 (h:xs.length=ys.length):Iz g xs ys 0:=⟨Int.le_refl _,by omega,h,rfl⟩
theorem rlN (h:Iz g xs ys i) (hi:i<(xs.length:Int)) (hf:g (rGet xs i) (rGet ys i)=true):Iz g xs ys (i+1):=by
 obtain⟨h0,h1,h2,h3⟩:=h;refine⟨by omega,by omega,h2,?_⟩;rw[←h3,Aaq h0 hi,Aaq h0 (by omega),Dk,hf,Bool.true_and]
theorem rlB (h:Iz g xs ys i) (hi:i<(xs.length:Int)) (hf:g (rGet xs i) (rGet ys i)=false):false=Dk g xs ys:=by
 obtain⟨h0,h1,h2,h3⟩:=h;rw[←h3,Aaq h0 hi,Aaq h0 (by omega),Dk,hf,Bool.false_and]
theorem rlE (h:Iz g xs ys i) (hi:¬i<(xs.length:Int)):true=Dk g xs ys:=by
 obtain⟨h0,h1,h2,h3⟩:=h;rw[←h3,List.drop_eq_nil_of_le (by omega),List.drop_eq_nil_of_le (by omega)]; rfl
end
end Go.Sx
namespace Go.Sx
abbrev hA:List Sh:=[.int .i64,.int .i64,.int .i64,.int .i64]
end Go.Sx
namespace Go.Sx
abbrev hK:List Sh:=[.int .i64,.sl hW]
end Go.Sx
namespace Go.Sx
abbrev hMx:List Sh:=[.int .i64,.int .i64,.sl hI]
end Go.Sx
namespace Go.Sx
abbrev hLm:List Sh:=[.int .i64,.int .i64,.int .i64]
end Go.Sx
namespace Go.Sx
abbrev hQ:List Sh:=[.int .i64,.int .i64,.int .i64,.int .i64,.sl hW]
end Go.Sx
namespace Go.Sx
abbrev hY:List Sh:=[.int .i64,.int .i64,.int .i64,.int .i64,.int .i64,.int .i64,.int .i64,.int .i64,.int .i64,.int .i64,.sl hW,.int .i64,.int .i64,.int .i64,.int .i64,.sl hW,.int .i64,.int .i64,.int .i64]
end Go.Sx
namespace Go.Sx
abbrev hIn:List Sh:=[.int .i64,.sl hW,.int .i64,.int .i64,.sl hI,.int .i64,.int .i64,.int .i64,.int .i64]
end Go.Sx
namespace Go.Sx
abbrev hVo:List Sh:=[.int .i64,.sl hI,.int .i64,.int .u64,.int .i64,.int .i64,.int .i64,.int .i64,.int .i64,.int .i64,.int .i64,.int .i64,.int .i64,.int .i64,.sl hW,.int .i64,.int .i64,.int .i64,.int .i64,.sl hW,.int .i64,.int .i64,.int .i64,.int .i64,.int .i64,.sl hI,.int .i64,.int .i64,.int .i64,.int .i64]
end Go.Sx
namespace Go.Sx
abbrev hOu:List Sh:=[.int .u64,.str,.int .i64,.int .i64,.int .i64,.int .i64,.int .i64,.sl hX,.int .i64,.int .i64,.sl hI,.int .i64,.int .i64,.int .i64,.sl hS,.bool,.int .i64,.int .i64,.int .i64,.int .i64,.int .i64,.int .i64,.int .i64,.int .i64,.int .i64,.int .i64,.int .i64,.int .i64,.sl hW,.int .i64,.int .i64,.int .i64,.int .i64,.int .i64]
end Go.Sx
namespace Go.Sx
abbrev hE:List Sh:=[.int .i64,.int .i64,.int .i64,.sl hOu,.sl hVo]
end Go.Sx
namespace Go
open Go.Sx
def Ag (a b:Int):Int:=(Int.gcd a b:Int)
def Ai (n d:Int):Bool:=decide (1<=n/\1<=d/\n<=68719476736/\d<=68719476736/\Ag n d=1)
def BC (a b:Int):Int:=a*b/18446744073709551616
def Bo (a b:Int):Int:=a*b % 18446744073709551616
def Ad (a:Int):Int:=if a=0 then 0 else(a.toNat.log2:Int)+1
def NP (h l y:Int):Int:=(h*18446744073709551616+l)/y
def Lm (h l y:Int):Int:=(h*18446744073709551616+l) % y
def BX (a b:Int):Int:=if a<1∨b<1 then 1 else if 68719476736<a/Ag a b∨68719476736<b/Ag a b then 2 else 0
def Au (a b v:Int):Int:=if BX a b=0 then v/Ag a b else 0
end Go
namespace Go
open Go.Sx
theorem Tv (a b:Int):Ag b (a.tmod b)=Ag a b:=by
 unfold Ag Int.gcd;rw[Int.natAbs_tmod,Nat.gcd_comm b.natAbs,←Nat.gcd_rec,Nat.gcd_comm]
theorem Uw {a:Int} (h:0<a):Ag a 0=a:=by
 unfold Ag;rw[Int.gcd_zero_right]; omega
theorem JP {a b:Int} (h:1<=a):1<=Ag a b/\Ag a b<=a:=by
 unfold Ag;have h1:0<Int.gcd a b:=Int.gcd_pos_of_ne_zero_left _ (by omega);have h2:(Int.gcd a b:Int)<=a:=Int.le_of_dvd (by omega) (Int.gcd_dvd_left ..);omega
theorem Xr {a b:Int} (h:1<=b):Ag a b<=b:=by
 unfold Ag;exact Int.le_of_dvd (by omega) (Int.gcd_dvd_right ..)
theorem Na {a b:Int} (h:1<=a) (h':1<=b):1<=a/Ag a b/\a/Ag a b<=a/\1<=b/Ag a b/\b/Ag a b<=b:=by
 have p:=JP (b:=b) h;have q:=Xr (a:=a) h';refine⟨?_,Int.ediv_le_self _ (by omega),?_,Int.ediv_le_self _ (by omega)⟩
 · exact(Int.le_ediv_iff_mul_le (by omega)).2 (by omega)
 · exact(Int.le_ediv_iff_mul_le (by omega)).2 (by omega)
theorem UF {a b:Int} (h:1<=a):Ag (a/Ag a b) (b/Ag a b)=1:=by
 have h1:0<Int.gcd a b:=Int.gcd_pos_of_ne_zero_left _ (by omega);unfold Ag;have:=Int.gcd_ediv_gcd_ediv_gcd h1;rw[this]; rfl
theorem XF (a b:Nat) (ha:a<18446744073709551616) (hb:b<18446744073709551616):iAnd .u64 (a:Int) (b:Int)=((a&&&b:Nat):Int):=by
 show IntKind.u64.wrap _=_;rw[IntKind.wrap_u64];have h1:(BitVec.ofInt IntKind.u64.bits (a:Int)&&&BitVec.ofInt IntKind.u64.bits (b:Int)).toNat=a&&&b:=by
  show(BitVec.ofInt 64 (a:Int)&&&BitVec.ofInt 64 (b:Int)).toNat=_;rw[BitVec.toNat_and,BitVec.ofInt_natCast,BitVec.ofInt_natCast,BitVec.toNat_ofNat,BitVec.toNat_ofNat,Nat.mod_eq_of_lt ha,Nat.mod_eq_of_lt hb]
 rw[h1];have:=Nat.and_le_left (n:=a) (m:=b);omega
theorem Yz (a b:Nat) (ha:a<18446744073709551616) (hb:b<18446744073709551616):iOr .u64 (a:Int) (b:Int)=((a|||b:Nat):Int):=by
 show IntKind.u64.wrap _=_;rw[IntKind.wrap_u64];have h1:(BitVec.ofInt IntKind.u64.bits (a:Int)|||BitVec.ofInt IntKind.u64.bits (b:Int)).toNat=a|||b:=by
  show(BitVec.ofInt 64 (a:Int)|||BitVec.ofInt 64 (b:Int)).toNat=_;rw[BitVec.toNat_or,BitVec.ofInt_natCast,BitVec.ofInt_natCast,BitVec.toNat_ofNat,BitVec.toNat_ofNat,Nat.mod_eq_of_lt ha,Nat.mod_eq_of_lt hb]
 rw[h1];have:=Nat.or_lt_two_pow (n:=64) (x:=a) (y:=b) (by simpa using ha) (by simpa using hb);have e:(2:Nat) ^ 64=18446744073709551616:=by decide
 omega
theorem Qj {x:Int} (h0:0<=x) (h1:x<=18446744073709551615):iAnd .u64 x 4294967295=x % 4294967296:=by
 obtain⟨a,rfl⟩:=Int.eq_ofNat_of_zero_le h0;have:=XF a 4294967295 (by omega) (by omega);have e:=Nat.and_two_pow_sub_one_eq_mod a 32;simp only[show(2:Nat) ^ 32=4294967296 by decide]at e;rw[show(4294967296-1:Nat)=4294967295 by decide]at e;rw[e]at this;rw[show((4294967295:Nat):Int)=4294967295 from rfl]at this;rw[this];omega
theorem Bv {x:Int} (h0:0<=x) (h1:x<=18446744073709551615):Aaj .u64 x=x:=by show IntKind.u64.wrap x=x; rw[IntKind.wrap_u64]; omega
theorem Lh (x:Int):Aaj .u64 x=x % 18446744073709551616:=by show IntKind.u64.wrap x=_; rw[IntKind.wrap_u64]
theorem Ri (x:Int):iShr x 32=x/4294967296:=by
 show x.fdiv (2 ^ (32:Int).toNat)=_;rw[Int.fdiv_eq_ediv_of_nonneg _ (by decide)];rfl
theorem V8 {x y:Int} (hx:0<=x) (hx':x<=18446744073709551615) (hy:0<=y) (hy':y<=18446744073709551615):
 0<=(x % 4294967296)*(y % 4294967296)/\(x % 4294967296)*(y % 4294967296)<18446744073709551616/\0<=(x/4294967296)*(y % 4294967296)/\(x/4294967296)*(y % 4294967296)<18446744073709551616/\
  (x/4294967296)*(y % 4294967296)+(x % 4294967296)*(y % 4294967296)/4294967296<18446744073709551616/\0<=(x % 4294967296)*(y/4294967296)/\(x % 4294967296)*(y/4294967296)<18446744073709551616/\
  ((x/4294967296)*(y % 4294967296)+(x % 4294967296)*(y % 4294967296)/4294967296) % 4294967296+(x % 4294967296)*(y/4294967296)<18446744073709551616/\
  0<=(x/4294967296)*(y/4294967296)/\(x/4294967296)*(y/4294967296)<18446744073709551616/\0<=x*y/18446744073709551616/\x*y/18446744073709551616<18446744073709551616/\
  (x/4294967296)*(y/4294967296)+((x/4294967296)*(y % 4294967296)+(x % 4294967296)*(y % 4294967296)/4294967296)/4294967296+(((x/4294967296)*(y % 4294967296)+(x % 4294967296)*(y % 4294967296)/4294967296) % 4294967296+(x % 4294967296)*(y/4294967296))/4294967296=x*y/18446744073709551616:=by
 obtain⟨a,rfl⟩:=Int.eq_ofNat_of_zero_le hx;obtain⟨b,rfl⟩:=Int.eq_ofNat_of_zero_le hy;have:=Go.Lib.mul64_hi a b (by omega) (by omega);have q1:=Go.Lib.half_mul_le (a:=a/4294967296) (b:=b/4294967296) (by omega) (by omega);have q2:=Go.Lib.half_mul_le (a:=a/4294967296) (b:=b % 4294967296) (by omega) (by omega);have q3:=Go.Lib.half_mul_le (a:=a % 4294967296) (b:=b/4294967296) (by omega) (by omega);have q4:=Go.Lib.half_mul_le (a:=a % 4294967296) (b:=b % 4294967296) (by omega) (by omega);have e1:((a:Int) % 4294967296)=((a % 4294967296:Nat):Int):=by omega
 have e2:((b:Int) % 4294967296)=((b % 4294967296:Nat):Int):=by omega
 have e3:((a:Int)/4294967296)=((a/4294967296:Nat):Int):=by omega
 have e4:((b:Int)/4294967296)=((b/4294967296:Nat):Int):=by omega
 rw[e1,e2,e3,e4,←Int.natCast_mul,←Int.natCast_mul,←Int.natCast_mul,←Int.natCast_mul,←Int.natCast_mul];generalize (a/4294967296)*(b/4294967296)=p at*;generalize (a/4294967296)*(b % 4294967296)=q at*;generalize (a % 4294967296)*(b/4294967296)=r at*;generalize (a % 4294967296)*(b % 4294967296)=s at*;generalize a*b=z at*;omega
end Go
namespace Go.Sx
def A200 (p:Int) (q:Int):FuncId->Nat->LoopAnn:=λ_ _=> .inv (Int×Int) (λx=>0<x.1/\0<=x.2/\Ag x.1 x.2=Ag p q) (λx=>[(0,.int .i64 x.1),(1,.int .i64 x.2)]) (λ_=>[]) [] [0,1,4,6] (λx=>x.2.toNat)
theorem v200 (p:Int) (q:Int):InR .i64 p/\InR .i64 q->0<p/\0<=q->(∃(x:Int×Int),(0<x.1/\0<=x.2/\Ag x.1 x.2=Ag p q)/\p=x.1/\q=x.2)/\∀(x:Int×Int),0<x.1/\0<=x.2/\Ag x.1 x.2=Ag p q->InR .i64 x.1/\InR .i64 x.2->Cn (bNe x.2 0) (pNe x.2 0/\∃(y:Int×Int),(0<y.1/\0<=y.2/\Ag y.1 y.2=Ag p q)/\x.2=y.1/\iRem x.1 x.2=y.2/\nLt y.2.toNat x.2.toNat) (x.1=Ag p q):=by
 intro hw hp;simp only[Cn_iff,Aas,true_and];refine⟨⟨(p,q),⟨hp.1,hp.2,rfl⟩,rfl,rfl⟩,λx hx _=>⟨λh=> ?_,λh=> ?_⟩⟩
 · have hne:x.2≠0:=by simpa using h
   have hb:=AhU x.1 (b:=x.2) (by omega);have h0:0<=x.1.tmod x.2:=Int.tmod_nonneg _ (by omega);exact⟨hne,(x.2,x.1.tmod x.2),⟨by simp only; omega,h0,by rw[Tv]; exact hx.2.2⟩,rfl,rfl,by simp only; omega⟩
 · have h0:x.2=0:=by simpa using h
   rw[←hx.2.2,h0,Uw hx.1]
def r200:Cr PR:=K [] 200 6 {ps:=[(false,hI),(false,hI)],rs:=[(false,hI)],pre:=λa=>0<(I a 0 0)/\0<=(I a 1 0),out:=λa=>[[.i (Ag (I a 0 0) (I a 1 0))]]} (λa=>A200 (I a 0 0) (I a 1 0)) λa=>Y (v200 (I a 0 0) (I a 1 0))
end Go.Sx
namespace Go.Sx
def A159 (p:Int) (q:Int):FuncId->Nat->LoopAnn:=λ_ _=> .inv (Int×Int) (λx=>0<x.1/\0<=x.2/\Ag x.1 x.2=Ag p q) (λx=>[(0,.int .i64 x.1),(1,.int .i64 x.2)]) (λ_=>[]) [] [0,1,4,6] (λx=>x.2.toNat)
theorem v159 (p:Int) (q:Int):InR .i64 p/\InR .i64 q->0<p/\0<=q->(∃(x:Int×Int),(0<x.1/\0<=x.2/\Ag x.1 x.2=Ag p q)/\p=x.1/\q=x.2)/\∀(x:Int×Int),0<x.1/\0<=x.2/\Ag x.1 x.2=Ag p q->InR .i64 x.1/\InR .i64 x.2->Cn (bNe x.2 0) (pNe x.2 0/\∃(y:Int×Int),(0<y.1/\0<=y.2/\Ag y.1 y.2=Ag p q)/\x.2=y.1/\iRem x.1 x.2=y.2/\nLt y.2.toNat x.2.toNat) (x.1=Ag p q):=by
 intro hw hp;simp only[Cn_iff,Aas,true_and];refine⟨⟨(p,q),⟨hp.1,hp.2,rfl⟩,rfl,rfl⟩,λx hx _=>⟨λh=> ?_,λh=> ?_⟩⟩
 · have hne:x.2≠0:=by simpa using h
   have hb:=AhU x.1 (b:=x.2) (by omega);have h0:0<=x.1.tmod x.2:=Int.tmod_nonneg _ (by omega);exact⟨hne,(x.2,x.1.tmod x.2),⟨by simp only; omega,h0,by rw[Tv]; exact hx.2.2⟩,rfl,rfl,by simp only; omega⟩
 · have h0:x.2=0:=by simpa using h
   rw[←hx.2.2,h0,Uw hx.1]
def r159:Cr PR:=K [] 159 6 {ps:=[(false,hI),(false,hI)],rs:=[(false,hI)],pre:=λa=>0<(I a 0 0)/\0<=(I a 1 0),out:=λa=>[[.i (Ag (I a 0 0) (I a 1 0))]]} (λa=>A159 (I a 0 0) (I a 1 0)) λa=>Y (v159 (I a 0 0) (I a 1 0))
end Go.Sx
namespace Go.Sx
theorem v133 (n:Int) (d:Int):InR .i64 n/\InR .i64 d->Cn (bLe 1 n) (Cn (bLe 1 d) (Cn (bLe n 68719476736) (Cn (bLe d 68719476736) ((0<n/\0<=d)/\(InR .i64 (Ag n d)->bEq (Ag n d) 1=Ai n d)) (false=Ai n d)) (false=Ai n d)) (false=Ai n d)) (false=Ai n d):=by
 intro hw;simp only[Cn_iff,Aas,true_and];simp only[D,E,Ai]
 repeat' (first|apply And.intro|intro _)
 all_goals (first|omega|(simp only[decide_eq_decide]; omega)|(symm; simp only[decide_eq_false_iff_not]; omega))
def r133:Cr PR:=K0 [r200] 133 6 {ps:=[(true,hII)],rs:=[(false,[.bool])],pre:=λ_=>True,out:=λa=>[[.b (Ai (I a 0 0) (I a 0 1))]]} U λa=>Y (v133 (I a 0 0) (I a 0 1))
end Go.Sx
namespace Go.Sx
theorem v143 (n:Int) (d:Int):InR .i64 n/\InR .i64 d->Cn (bLe 1 n) (Cn (bLe 1 d) (Cn (bLe n 68719476736) (Cn (bLe d 68719476736) ((0<n/\0<=d)/\(InR .i64 (Ag n d)->bEq (Ag n d) 1=Ai n d)) (false=Ai n d)) (false=Ai n d)) (false=Ai n d)) (false=Ai n d):=by
 intro hw;simp only[Cn_iff,Aas,true_and];simp only[D,E,Ai]
 repeat' (first|apply And.intro|intro _)
 all_goals (first|omega|(simp only[decide_eq_decide]; omega)|(symm; simp only[decide_eq_false_iff_not]; omega))
def r143:Cr PR:=K0 [r159] 143 6 {ps:=[(true,hII)],rs:=[(false,[.bool])],pre:=λ_=>True,out:=λa=>[[.b (Ai (I a 0 0) (I a 0 1))]]} U λa=>Y (v143 (I a 0 0) (I a 0 1))
end Go.Sx
namespace Go.Sx
theorem v202 (x:Int) (y:Int):InR .u64 x/\InR .u64 y->True->pSh 64 32/\pSh 64 32/\pSh 64 32/\pSh 64 32/\pSh 64 32/\Aaj .u64 (iAdd (Aaj .u64 (iAdd (Aaj .u64 (iMul (iShr x 32) (iShr y 32))) (iShr (Aaj .u64 (iAdd (Aaj .u64 (iMul (iShr x 32) (iAnd IntKind.u64 y 4294967295))) (iShr (Aaj .u64 (iMul (iAnd IntKind.u64 x 4294967295) (iAnd IntKind.u64 y 4294967295))) 32))) 32))) (iShr (Aaj .u64 (iAdd (iAnd IntKind.u64 (Aaj .u64 (iAdd (Aaj .u64 (iMul (iShr x 32) (iAnd IntKind.u64 y 4294967295))) (iShr (Aaj .u64 (iMul (iAnd IntKind.u64 x 4294967295) (iAnd IntKind.u64 y 4294967295))) 32))) 4294967295) (Aaj .u64 (iMul (iAnd IntKind.u64 x 4294967295) (iShr y 32))))) 32))=BC x y/\Aaj .u64 (iMul x y)=Bo x y:=by
 intro hw hp;simp only[Wfs,Wf,InR,and_true]at hw;have c:pSh 64 32:=by decide
 refine⟨c,c,c,c,c,?_⟩;have m:=V8 (x:=x) (y:=y) (by omega) (by omega) (by omega) (by omega);simp only[Ri,iMul,iAdd];rw[Qj (x:=x) (by omega) (by omega),Qj (x:=y) (by omega) (by omega)];rw[Bv (x:=x % 4294967296*(y % 4294967296)) (by omega) (by omega),Bv (x:=x/4294967296*(y % 4294967296)) (by omega) (by omega)];rw[Bv (x:=x/4294967296*(y % 4294967296)+x % 4294967296*(y % 4294967296)/4294967296) (by omega) (by omega)];rw[Bv (x:=x % 4294967296*(y/4294967296)) (by omega) (by omega),Bv (x:=x/4294967296*(y/4294967296)) (by omega) (by omega)];rw[Qj (by omega) (by omega)];rw[Bv (x:=(x/4294967296*(y % 4294967296)+x % 4294967296*(y % 4294967296)/4294967296) % 4294967296+x % 4294967296*(y/4294967296)) (by omega) (by omega)];rw[Bv (x:=x/4294967296*(y/4294967296)+(x/4294967296*(y % 4294967296)+x % 4294967296*(y % 4294967296)/4294967296)/4294967296) (by omega) (by omega)];rw[Bv (x:=x/4294967296*(y/4294967296)+(x/4294967296*(y % 4294967296)+x % 4294967296*(y % 4294967296)/4294967296)/4294967296+_) (by omega) (by omega)];rw[Lh];unfold BC Bo;simp only[m.2.2.2.2.2.2.2.2.2.2.2.2];simp
def r202:Cr PR:=Kw (λ_=>true) [] 202 6 {ps:=[(false,[.int .u64]),(false,[.int .u64])],rs:=[(false,[.int .u64]),(false,[.int .u64])],pre:=λ_=>True,out:=λa=>[[.i (BC (I a 0 0) (I a 1 0))],[.i (Bo (I a 0 0) (I a 1 0))]]} U λa=>Y (v202 (I a 0 0) (I a 1 0))
end Go.Sx

set_option linter.unusedVariables false
set_option linter.unusedSimpArgs false
set_option maxRecDepth 100000
set_option maxHeartbeats 4000000
namespace Go
open Go.Sx
structure G9 (a u D q r:Int):Prop where
 q0:0<=q
 r0:0<=r
 r1:r<4294967296
 q1:q<=4294967297
 e:a=q*(D/4294967296)+r
 le:(a*4294967296+u)/D<=q
theorem Oh (D q:Int):q*D=q*(D/4294967296)*4294967296+q*(D % 4294967296):=by
 have h:D=D/4294967296*4294967296+D % 4294967296:=by omega
 have h2:q*(D/4294967296*4294967296+D % 4294967296)=q*(D/4294967296)*4294967296+q*(D % 4294967296):=by rw[Int.mul_add,Int.mul_assoc]
 rw[←h]at h2;exact h2
theorem RH {N D q:Int} (hD:0<D) (h:q*D<=N):q<=N/D:=(Int.le_ediv_iff_mul_le hD).2 h
theorem Qo {N D q:Int} (hD:0<D) (h:N<q*D):N/D<q:=Int.ediv_lt_of_lt_mul hD h
theorem G9.stop {a u D q r:Int} (h:G9 a u D q r) (hD:0<D) (hc:q*(D % 4294967296)<=4294967296*r+u):q=(a*4294967296+u)/D:=by
 have m:=Oh D q;have e:=h.e;have l:=h.le;generalize q*(D/4294967296)=p at*;have:=RH (N:=a*4294967296+u) (D:=D) (q:=q) hD (by omega);omega
theorem PZ {a u D:Int} (hD:0<D) (ha:a<D) (hu:u<4294967296):(a*4294967296+u)/D<4294967296:=
 Qo hD (by omega)
theorem G9.bd {a u D q r:Int} (h:G9 a u D q r) (hD1:9223372036854775808<=D) (hD2:D<=18446744073709551615):0<=q*(D % 4294967296)/\q*(D % 4294967296)<=18446744073709551615:=by
 have:=Aap (x:=q) (X:=4294967297) (y:=D % 4294967296) (Y:=4294967295) h.q0 h.q1 (by omega) (by omega);omega
theorem G9.dec {a u D q r:Int} (h:G9 a u D q r) (hD1:9223372036854775808<=D) (hD2:D<=18446744073709551615) (ha:0<=a) (ha':a<D) (hu:0<=u) (hu':u<4294967296)
 (hc:4294967296<=q∨4294967296*r+u<q*(D % 4294967296)):
 1<=q/\0<=r+D/4294967296/\r+D/4294967296<=18446744073709551615/\(r+D/4294967296<4294967296->G9 a u D (q-1) (r+D/4294967296))/\(4294967296<=r+D/4294967296->q-1=(a*4294967296+u)/D):=by
 have hs:=PZ (a:=a) (u:=u) (D:=D) (by omega) ha' hu';have hn:0<=(a*4294967296+u)/D:=Int.ediv_nonneg (by omega) (by omega);have hlt:(a*4294967296+u)/D<q:=by
  rcases hc with hc|hc
  · omega
  · refine Qo (by omega) ?_;have m:=Oh D q;have e:=h.e;generalize q*(D/4294967296)=p at*;omega
 have e1:a=(q-1)*(D/4294967296)+(r+D/4294967296):=by
  rw[Int.sub_mul,Int.one_mul]; have:=h.e; omega
 have q1:q-1<=4294967296:=by have:=h.q1; omega
 have r0:=h.r0;have r1:=h.r1;refine⟨by omega,by omega,by omega,λhr=>⟨by omega,by omega,hr,by omega,e1,by omega⟩,λhr=> ?_⟩;have m:=Oh D (q-1);have b:=Aap (x:=q-1) (X:=4294967296) (y:=D % 4294967296) (Y:=4294967295) (by omega) q1 (by omega) (by omega);generalize (q-1)*(D/4294967296)=p at*;have:=RH (N:=a*4294967296+u) (D:=D) (q:=q-1) (by omega) (by omega);omega
theorem G9.init {a u D:Int} (hD1:9223372036854775808<=D) (hD2:D<=18446744073709551615) (ha:0<=a) (ha':a<D) (hu:0<=u) (hu':u<4294967296):G9 a u D (a/(D/4294967296)) (a-a/(D/4294967296)*(D/4294967296)):=by
 have hv:0<D/4294967296:=by omega
 have d1:=Int.emod_add_mul_ediv a (D/4294967296);have d2:=Int.emod_nonneg a (show D/4294967296≠0 by omega);have d3:=Int.emod_lt_of_pos a hv;rw[Int.mul_comm]at d1;have q0:0<=a/(D/4294967296):=Int.ediv_nonneg ha (by omega);refine⟨q0,by omega,by omega,?_,by omega,?_⟩
 · have:a/(D/4294967296)<4294967298:=Qo hv (by omega);omega
 · have m:=Oh D (a/(D/4294967296)+1);have b:0<=(a/(D/4294967296)+1)*(D % 4294967296):=Int.mul_nonneg (by omega) (by omega);have m2:(a/(D/4294967296)+1)*(D/4294967296)=a/(D/4294967296)*(D/4294967296)+D/4294967296:=by rw[Int.add_mul,Int.one_mul]
   rw[m2]at m;have:=Qo (N:=a*4294967296+u) (D:=D) (q:=a/(D/4294967296)+1) (by omega) (by omega);omega
theorem Qw {y:Int} (h0:1<=y) (h1:y<=18446744073709551615):1<=Ad y/\Ad y<=64/\9223372036854775808<=y*2 ^ (64-Ad y).toNat/\y*2 ^ (64-Ad y).toNat<=18446744073709551615:=by
 obtain⟨a,rfl⟩:=Int.eq_ofNat_of_zero_le (show 0<=y by omega);have ha:a≠0:=by omega
 have l1:=Nat.log2_self_le ha;have l2:=Nat.lt_log2_self (n:=a);have l3:a.log2<64:=(Nat.log2_lt ha).2 (by omega);have e:Ad (a:Int)=(a.log2:Int)+1:=by unfold Ad; rw[if_neg (by omega)]; simp
 have e2:(64-Ad (a:Int)).toNat=63-a.log2:=by omega
 rw[e2,e];have p1:(2:Nat) ^ a.log2*2 ^ (63-a.log2)=9223372036854775808:=by rw[←Nat.pow_add,show a.log2+(63-a.log2)=63 by omega]
 have p2:(2:Nat) ^ (a.log2+1)*2 ^ (63-a.log2)=18446744073709551616:=by rw[←Nat.pow_add,show a.log2+1+(63-a.log2)=64 by omega]
 have k1:=Nat.mul_le_mul_right (2 ^ (63-a.log2)) l1;have k2:a*2 ^ (63-a.log2)<2 ^ (a.log2+1)*2 ^ (63-a.log2):=Nat.mul_lt_mul_of_pos_right l2 (Nat.two_pow_pos _);have e3:(a:Int)*2 ^ (63-a.log2)=((a*2 ^ (63-a.log2):Nat):Int):=by rw[Int.natCast_mul,Int.natCast_pow]; rfl
 rw[e3];omega
theorem Yn {a:Nat} (k:Nat) (h:2 ^ k<=a):a.log2=k+(a/2 ^ k).log2:=by
 have hp:=Nat.two_pow_pos k;have h1:1<=a/2 ^ k:=(Nat.le_div_iff_mul_le hp).2 (by omega);have h2:=Nat.log2_self_le (n:=a/2 ^ k) (by omega);have h3:=Nat.lt_log2_self (n:=a/2 ^ k);rw[Nat.log2_eq_iff (by omega)];constructor
 · rw[Nat.pow_add,Nat.mul_comm];exact(Nat.le_div_iff_mul_le hp).1 h2
 · rw[show k+(a/2 ^ k).log2+1=(a/2 ^ k).log2+1+k by omega,Nat.pow_add];exact(Nat.div_lt_iff_lt_mul hp).1 h3
theorem QA {x:Int} (k:Nat) (h:(2:Int) ^ k<=x):Ad x=k+Ad (x/2 ^ k):=by
 obtain⟨a,rfl⟩:=Int.eq_ofNat_of_zero_le (show 0<=x from Int.le_trans (Int.le_of_lt (Int.pow_pos (by decide))) h);have hp:=Nat.two_pow_pos k;have e:(2:Int) ^ k=((2 ^ k:Nat):Int):=by rw[Int.natCast_pow]; rfl
 rw[e]at h ⊢;have ha:2 ^ k<=a:=by omega
 have h1:1<=a/2 ^ k:=(Nat.le_div_iff_mul_le hp).2 (by omega);have e2:(a:Int)/((2 ^ k:Nat):Int)=((a/2 ^ k:Nat):Int):=rfl;rw[e2];unfold Ad;rw[if_neg (by omega),if_neg (by omega),Int.toNat_natCast,Int.toNat_natCast,Yn k ha];omega
end Go
namespace Go
open Go.Sx
def NQ (y:Int):Int:=2 ^ (64-Ad y).toNat
def Bi (y:Int):Int:=y*NQ y
def JA (h l y:Int):Int:=h*NQ y+l/2 ^ (64- (64-Ad y)).toNat
def Ey (l y:Int):Int:=l*NQ y % 18446744073709551616
def GV (h l y:Int):Int:=(JA h l y*4294967296+Ey l y/4294967296)/Bi y
def Md (h l y:Int):Int:=JA h l y*4294967296+Ey l y/4294967296-GV h l y*Bi y
def Mc (h l y:Int):Int:=(Md h l y*4294967296+Ey l y % 4294967296)/Bi y
def Nu (a u d q r:Int):Prop:=G9 a u d q r
end Go
namespace Go
open Go.Sx
theorem Yg {a b:Int} {i:Nat} (ha:0<=a) (hb:0<=b) (hb':b<2 ^ i) (h:a*2 ^ i+b<=18446744073709551615):iOr .u64 (a*2 ^ i) b=a*2 ^ i+b:=by
 obtain⟨x,rfl⟩:=Int.eq_ofNat_of_zero_le ha;obtain⟨y,rfl⟩:=Int.eq_ofNat_of_zero_le hb;have e:(2:Int) ^ i=((2 ^ i:Nat):Int):=by rw[Int.natCast_pow]; rfl
 rw[e]at hb' h ⊢;have e2:(x:Int)*((2 ^ i:Nat):Int)=((x*2 ^ i:Nat):Int):=by rw[Int.natCast_mul]
 rw[e2]at h ⊢;rw[Yz _ _ (by omega) (by omega)];have:=Nat.shiftLeft_add_eq_or_of_lt (i:=i) (b:=y) (by omega) x;rw[Nat.shiftLeft_eq]at this;rw[←this]; simp
structure ZG (h l y:Int):Prop where
 s0:0<=64-Ad y
 s1:64-Ad y<=63
 e0:Aaj .u64 (64-Ad y)=64-Ad y
 e1:Aaj .u64 (iShl y (64-Ad y))=Bi y
 e2:iOr .u64 (Aaj .u64 (iShl h (64-Ad y))) (iShr l (Aaj .u64 (iSub 64 (64-Ad y))))=JA h l y
 e3:Aaj .u64 (iShl l (64-Ad y))=Ey l y
 e4:Aaj .u64 (iSub 64 (64-Ad y))=64- (64-Ad y)
 d0:9223372036854775808<=Bi y
 d1:Bi y<=18446744073709551615
 u0:0<=JA h l y
 u1:JA h l y<Bi y
 b0:0<=Ey l y
 b1:Ey l y<18446744073709551616
 p0:1<=NQ y
 eq:(h*18446744073709551616+l)*NQ y=JA h l y*18446744073709551616+Ey l y
theorem Wl {h l y:Int} (hh:0<=h) (hl:0<=l) (hl':l<=18446744073709551615) (hy:y<=18446744073709551615) (hlt:h<y):ZG h l y:=by
 have L:=Qw (y:=y) (by omega) hy;have e0:Aaj .u64 (64-Ad y)=64-Ad y:=Bv (by omega) (by omega);have e4:Aaj .u64 (iSub 64 (64-Ad y))=64- (64-Ad y):=Bv (by simp only[iSub]; omega) (by simp only[iSub]; omega);have hP:(2:Int) ^ (64-Ad y).toNat*2 ^ (64- (64-Ad y)).toNat=18446744073709551616:=by
  rw[←Int.pow_add,show(64-Ad y).toNat+(64- (64-Ad y)).toNat=64 by omega]; rfl
 have p0:(0:Int)<2 ^ (64-Ad y).toNat:=Int.pow_pos (by decide);have p1:(0:Int)<2 ^ (64- (64-Ad y)).toNat:=Int.pow_pos (by decide);have eD:Bi y=y*2 ^ (64-Ad y).toNat:=rfl;have eU:JA h l y=h*2 ^ (64-Ad y).toNat+l/2 ^ (64- (64-Ad y)).toNat:=rfl;have eB:Ey l y=l*2 ^ (64-Ad y).toNat % 18446744073709551616:=rfl;have eP:NQ y=2 ^ (64-Ad y).toNat:=rfl;have hq:l/2 ^ (64- (64-Ad y)).toNat<2 ^ (64-Ad y).toNat:=Int.ediv_lt_of_lt_mul p1 (by rw[hP]; omega);have hq0:0<=l/2 ^ (64- (64-Ad y)).toNat:=Int.ediv_nonneg hl (by omega);have hh1:h*2 ^ (64-Ad y).toNat+2 ^ (64-Ad y).toNat<=y*2 ^ (64-Ad y).toNat:=by
  have:=Int.mul_le_mul_of_nonneg_right (show h+1<=y by omega) (Int.le_of_lt p0);rw[Int.add_mul,Int.one_mul]at this; exact this
 have hh0:0<=h*2 ^ (64-Ad y).toNat:=Int.mul_nonneg hh (by omega);have m1:=Int.emod_add_mul_ediv l (2 ^ (64- (64-Ad y)).toNat);have m2:=Int.emod_nonneg l (show(2:Int) ^ (64- (64-Ad y)).toNat≠0 by omega);have m3:=Int.emod_lt_of_pos l p1;have k1:l*2 ^ (64-Ad y).toNat=l/2 ^ (64- (64-Ad y)).toNat*18446744073709551616+l % 2 ^ (64- (64-Ad y)).toNat*2 ^ (64-Ad y).toNat:=by
  rw[←hP];generalize (2:Int) ^ (64-Ad y).toNat=p at*;generalize (2:Int) ^ (64- (64-Ad y)).toNat=p' at*;have:(l % p'+p'*(l/p'))*p=l*p:=by rw[m1]
  rw[←this,Int.add_mul,Int.add_comm (l % p'*p),Int.mul_comm p' (l/p'),Int.mul_assoc,Int.mul_comm p' p]
 have k2:0<=l % 2 ^ (64- (64-Ad y)).toNat*2 ^ (64-Ad y).toNat:=Int.mul_nonneg m2 (by omega);have k3:l % 2 ^ (64- (64-Ad y)).toNat*2 ^ (64-Ad y).toNat<18446744073709551616:=by
  rw[←hP,Int.mul_comm (2 ^ (64-Ad y).toNat)];exact Int.mul_lt_mul_of_pos_right m3 p0
 have eq:(h*18446744073709551616+l)*NQ y=JA h l y*18446744073709551616+Ey l y:=by
  rw[eB,k1,eU,eP,Int.add_mul,k1,Int.add_mul,Int.mul_right_comm h 18446744073709551616];omega
 have e1:Aaj .u64 (iShl y (64-Ad y))=Bi y:=Bv (by simp only[iShl]; omega) (by simp only[iShl]; omega);have ew:Aaj .u64 (iShl h (64-Ad y))=h*2 ^ (64-Ad y).toNat:=Bv (by simp only[iShl]; omega) (by simp only[iShl]; omega);refine⟨by omega,by omega,e0,e1,?_,Lh _,e4,by omega,by omega,by omega,by omega,by omega,by omega,by omega,eq⟩;rw[e4,ew];have es:iShr l (64- (64-Ad y))=l/2 ^ (64- (64-Ad y)).toNat:=Int.fdiv_eq_ediv_of_nonneg _ (by omega);rw[es,eU];exact Yg hh hq0 hq (by omega)
theorem Xz {H y p Q R:Int} (hp:1<=p) (hy:1<=y) (e:H*p=Q*(y*p)+R) (r0:0<=R) (r1:R<y*p):H/y=Q/\H % y=R/p:=by
 have e2:R=(H-Q*y)*p:=by rw[Int.sub_mul,e,Int.mul_assoc]; omega
 have e3:R/p=H-Q*y:=by rw[e2,Int.mul_ediv_cancel _ (by omega)]
 have h0:0<=H-Q*y:=by rw[←e3]; exact Int.ediv_nonneg r0 (by omega)
 have h1:H-Q*y<y:=by rw[←e3]; exact Int.ediv_lt_of_lt_mul (by omega) r1
 have h2:=(Int.ediv_emod_unique (a:=H) (b:=y) (r:=H-Q*y) (q:=Q) (by omega)).2 ⟨by rw[Int.mul_comm y]; omega,h0,h1⟩;rw[e3]; exact h2
theorem TA {N D:Int} (hD:0<D):0<=N-N/D*D/\N-N/D*D<D:=by
 have d1:=Int.emod_add_mul_ediv N D;have d2:=Int.emod_nonneg N (show D≠0 by omega);have d3:=Int.emod_lt_of_pos N hD;rw[Int.mul_comm]at d1;omega
end Go
namespace Go.Sx
def m252_0:ByteArray:= {data:= {toList:=([0,1,2,2,3,3,3,3,4,4,4,4,4,4,4,4,5,5,5,5,5,5,5,5,5,5,5,5,5,5,5,5,6,6,6,6,6,6,6,6,6,6,6,6,6,6,6,6,6,6,6,6,6,6,6,6,6,6,6,6,6,6,6,6].append [7,7,7,7,7,7,7,7,7,7,7,7,7,7,7,7,7,7,7,7,7,7,7,7,7,7,7,7,7,7,7,7,7,7,7,7,7,7,7,7,7,7,7,7,7,7,7,7,7,7,7,7,7,7,7,7,7,7,7,7,7,7,7,7]).append ([8,8,8,8,8,8,8,8,8,8,8,8,8,8,8,8,8,8,8,8,8,8,8,8,8,8,8,8,8,8,8,8,8,8,8,8,8,8,8,8,8,8,8,8,8,8,8,8,8,8,8,8,8,8,8,8,8,8,8,8,8,8,8,8].append [8,8,8,8,8,8,8,8,8,8,8,8,8,8,8,8,8,8,8,8,8,8,8,8,8,8,8,8,8,8,8,8,8,8,8,8,8,8,8,8,8,8,8,8,8,8,8,8,8,8,8,8,8,8,8,8,8,8,8,8,8,8,8,8])}}
theorem v252 (x:Int):InR .u64 x->True->Cn (bLe 4294967296 x) (pSh 64 32/\Cn (bLe 65536 (iShr x 32)) (pSh 64 16/\Cn (bLe 256 (iShr (iShr x 32) 16)) (pSh 64 8/\pIn 0 (AaH m252_0) (Aaj .u8 (iShr (iShr (iShr x 32) 16) 8))/\Aaj .i64 (iAdd (32+16+8) (sAt m252_0 (Aaj .u8 (iShr (iShr (iShr x 32) 16) 8))))=Ad x) (pIn 0 (AaH m252_0) (Aaj .u8 (iShr (iShr x 32) 16))/\Aaj .i64 (iAdd (32+16) (sAt m252_0 (Aaj .u8 (iShr (iShr x 32) 16))))=Ad x)) (Cn (bLe 256 (iShr x 32)) (pSh 64 8/\pIn 0 (AaH m252_0) (Aaj .u8 (iShr (iShr x 32) 8))/\Aaj .i64 (iAdd (32+8) (sAt m252_0 (Aaj .u8 (iShr (iShr x 32) 8))))=Ad x) (pIn 0 (AaH m252_0) (Aaj .u8 (iShr x 32))/\Aaj .i64 (iAdd 32 (sAt m252_0 (Aaj .u8 (iShr x 32))))=Ad x))) (Cn (bLe 65536 x) (pSh 64 16/\Cn (bLe 256 (iShr x 16)) (pSh 64 8/\pIn 0 (AaH m252_0) (Aaj .u8 (iShr (iShr x 16) 8))/\Aaj .i64 (iAdd (0+16+8) (sAt m252_0 (Aaj .u8 (iShr (iShr x 16) 8))))=Ad x) (pIn 0 (AaH m252_0) (Aaj .u8 (iShr x 16))/\Aaj .i64 (iAdd (0+16) (sAt m252_0 (Aaj .u8 (iShr x 16))))=Ad x)) (Cn (bLe 256 x) (pSh 64 8/\pIn 0 (AaH m252_0) (Aaj .u8 (iShr x 8))/\Aaj .i64 (iAdd (0+8) (sAt m252_0 (Aaj .u8 (iShr x 8))))=Ad x) (pIn 0 (AaH m252_0) (Aaj .u8 x)/\Aaj .i64 (iAdd 0 (sAt m252_0 (Aaj .u8 x)))=Ad x))):=by
 intro hw hp;simp only[Cn_iff,Aas,true_and];simp only[Wfs,Wf,InR,and_true]at hw;have T:∀v:Int,0<=v->v<=255->sAt (m252_0) v=Ad v/\pIn 0 (AaH (m252_0)) v:=λv h0 h1=>by
  have t:∀n:Fin 256,sAt (m252_0) ((n.val:Nat):Int)=Ad ((n.val:Nat):Int):=by decide+kernel
  have s:AaH (m252_0)=256:=by decide+kernel
  refine⟨?_,h0,by rw[s]; omega⟩;have:=t ⟨v.toNat,by omega⟩;simp only[Int.toNat_of_nonneg h0]at this;exact this
 generalize (m252_0:ByteArray)=tb at T ⊢;have W8:∀e:Int,0<=e->e<=255->Aaj .u8 e=e:=λe h0 h1=>InR.wrap (by simp only[InR]; omega);have B:∀v:Int,0<=v->v<=255->0<=Ad v/\Ad v<=64:=λv h0 h1=>by
  by_cases hv:v=0
  · subst hv; decide
  · have:=Qw (y:=v) (by omega) (by omega); omega
 have W64:∀c v:Int,0<=v->v<=255->0<=c->c<=1000->Aaj .i64 (c+Ad v)=c+Ad v:=λc v h0 h1 h2 h3=>InR.wrap (by have:=B v h0 h1; simp only[InR]; omega);have U32:4294967296<=x->Ad x=32+Ad (x/4294967296):=λh=>QA 32 h;have U16:∀v:Int,65536<=v->Ad v=16+Ad (v/65536):=λv h=>QA 16 h;have U8:∀v:Int,256<=v->Ad v=8+Ad (v/256):=λv h=>QA 8 h;have u1:=U16 x;have u2:=U16 (x/4294967296);have u3:=U8 x;have u4:=U8 (x/4294967296);have u5:=U8 (x/65536);have u6:=U8 (x/4294967296/65536);have S16:∀v:Int,iShr v 16=v/65536:=λv=>Int.fdiv_eq_ediv_of_nonneg _ (by decide);have S8:∀v:Int,iShr v 8=v/256:=λv=>Int.fdiv_eq_ediv_of_nonneg _ (by decide);have c32:pSh 64 32:=by decide
 have c16:pSh 64 16:=by decide
 have c8:pSh 64 8:=by decide
 simp only[Ri,S16,S8,D,E]
 repeat' (first|assumption|apply And.intro|intro _)
 all_goals (first|trivial|(rw[W8 _ (by omega) (by omega)]; exact(T _ (by omega) (by omega)).2.1)|(rw[W8 _ (by omega) (by omega)]; exact(T _ (by omega) (by omega)).2.2)|skip)
 all_goals
  rw[W8 _ (by omega) (by omega),(T _ (by omega) (by omega)).1]
  rw[W64 _ _ (by omega) (by omega) (by omega) (by omega)]
  omega
def r252:Cr PR:=Kw (λ_=>true) [] 252 6 {ps:=[(false,[.int .u64])],rs:=[(false,hI)],pre:=λ_=>True,out:=λa=>[[.i (Ad (I a 0 0))]]} U λa=>Y (v252 (I a 0 0))
end Go.Sx
namespace Go.Sx
theorem v239 (x:Int):InR .u64 x->True->True/\(InR .i64 (Ad x)->Aaj .i64 (iSub 64 (Ad x))=64-Ad x):=by
 intro hw hp;simp only[Wfs,Wf,InR,and_true]at hw;refine⟨trivial,λh=> ?_⟩;have B:0<=Ad x/\Ad x<=64:=by
  by_cases hv:x=0
  · subst hv; decide
  · have:=Qw (y:=x) (by omega) (by omega); omega
 exact InR.wrap (by simp only[InR,iSub]; omega)
def r239:Cr PR:=Kw (λ_=>true) [r252] 239 6 {ps:=[(false,[.int .u64])],rs:=[(false,hI)],pre:=λ_=>True,out:=λa=>[[.i (64-Ad (I a 0 0))]]} U λa=>Y (v239 (I a 0 0))
end Go.Sx
namespace Go.Sx
def A211 (h:Int) (l:Int) (y:Int):FuncId->Nat->LoopAnn:=λ_ i=>bif Nat.beq i 17 then .inv (Int×Int) (λx=>Nu (JA h l y) (Ey l y/4294967296) (Bi y) x.1 x.2) (λx=>[(15,.int .u64 x.1),(16,.int .u64 x.2)]) (λ_=>[]) [] [0,1,2,6,7,8,9,10,11,12,13,14,15,16,17,18,20,24,27,78,85,113,120] (λx=>x.1.toNat)else bif Nat.beq i 24 then .inv (Int×Int) (λx=>Nu (Md h l y) (Ey l y % 4294967296) (Bi y) x.1 x.2) (λx=>[(18,.int .u64 x.1),(16,.int .u64 x.2)]) (λ_=>[]) [] [0,1,2,6,7,8,9,10,11,12,13,14,15,16,17,18,20,24,27,78,85,113,120] (λx=>x.1.toNat)else bif Nat.beq i 1000021 then .cut Unit (λ_=>True) (λ_=>[(15,.int .u64 (GV h l y))]) (λ_=>[]) [] [0,1,2,6,7,8,9,10,11,12,13,14,15,16,17,18,20,24,27,78,85,113,120]else bif Nat.beq i 1000028 then .cut Unit (λ_=>True) (λ_=>[(18,.int .u64 (Mc h l y))]) (λ_=>[]) [] [0,1,2,6,7,8,9,10,11,12,13,14,15,16,17,18,20,24,27,78,85,113,120]else .unroll 0
def Aie (h:Int) (l:Int) (y:Int) (x:Int×Int):Prop:=Sm h/\Sm l/\Sm (Aaj .u64 (iShl y (Aaj .u64 (64-Ad y))))/\Sm (Aaj .u64 (64-Ad y))/\Sm (iShr (Aaj .u64 (iShl y (Aaj .u64 (64-Ad y)))) 32)/\Sm (iAnd IntKind.u64 (Aaj .u64 (iShl y (Aaj .u64 (64-Ad y)))) 4294967295)/\Sm (iOr IntKind.u64 (Aaj .u64 (iShl h (Aaj .u64 (64-Ad y)))) (iShr l (Aaj .u64 (iSub 64 (Aaj .u64 (64-Ad y))))))/\Sm (Aaj .u64 (iShl l (Aaj .u64 (64-Ad y))))/\Sm (iShr (Aaj .u64 (iShl l (Aaj .u64 (64-Ad y)))) 32)/\Sm (iAnd IntKind.u64 (Aaj .u64 (iShl l (Aaj .u64 (64-Ad y)))) 4294967295)/\Sm (GV h l y)/\Sm (Aaj .u64 (iSub (Aaj .u64 (iAdd (Aaj .u64 (iMul (iOr IntKind.u64 (Aaj .u64 (iShl h (Aaj .u64 (64-Ad y)))) (iShr l (Aaj .u64 (iSub 64 (Aaj .u64 (64-Ad y)))))) 4294967296)) (iShr (Aaj .u64 (iShl l (Aaj .u64 (64-Ad y)))) 32))) (Aaj .u64 (iMul (GV h l y) (Aaj .u64 (iShl y (Aaj .u64 (64-Ad y))))))))/\∃(y_1:Int×Int),Nu (Md h l y) (Ey l y % 4294967296) (Bi y) y_1.1 y_1.2/\Aaj .u64 (iSub x.1 1)=y_1.1/\Aaj .u64 (iAdd x.2 (iShr (Aaj .u64 (iShl y (Aaj .u64 (64-Ad y)))) 32))=y_1.2/\nLt y_1.1.toNat x.1.toNat
def Aid (h:Int) (l:Int) (y:Int) (x:Int×Int):Prop:=Sm h/\Sm l/\Sm (Aaj .u64 (iShl y (Aaj .u64 (64-Ad y))))/\Sm (Aaj .u64 (64-Ad y))/\Sm (iShr (Aaj .u64 (iShl y (Aaj .u64 (64-Ad y)))) 32)/\Sm (iAnd IntKind.u64 (Aaj .u64 (iShl y (Aaj .u64 (64-Ad y)))) 4294967295)/\Sm (iOr IntKind.u64 (Aaj .u64 (iShl h (Aaj .u64 (64-Ad y)))) (iShr l (Aaj .u64 (iSub 64 (Aaj .u64 (64-Ad y))))))/\Sm (Aaj .u64 (iShl l (Aaj .u64 (64-Ad y))))/\Sm (iShr (Aaj .u64 (iShl l (Aaj .u64 (64-Ad y)))) 32)/\Sm (iAnd IntKind.u64 (Aaj .u64 (iShl l (Aaj .u64 (64-Ad y)))) 4294967295)/\Sm (GV h l y)/\Sm (Aaj .u64 (iSub (Aaj .u64 (iAdd (Aaj .u64 (iMul (iOr IntKind.u64 (Aaj .u64 (iShl h (Aaj .u64 (64-Ad y)))) (iShr l (Aaj .u64 (iSub 64 (Aaj .u64 (64-Ad y)))))) 4294967296)) (iShr (Aaj .u64 (iShl l (Aaj .u64 (64-Ad y)))) 32))) (Aaj .u64 (iMul (GV h l y) (Aaj .u64 (iShl y (Aaj .u64 (64-Ad y))))))))/\∃(y_1:Unit),True/\Aaj .u64 (iSub x.1 1)=Mc h l y
def Aic (h:Int) (l:Int) (y:Int) (x:Int×Int):Prop:=Sm h/\Sm l/\Sm (Aaj .u64 (iShl y (Aaj .u64 (64-Ad y))))/\Sm (Aaj .u64 (64-Ad y))/\Sm (iShr (Aaj .u64 (iShl y (Aaj .u64 (64-Ad y)))) 32)/\Sm (iAnd IntKind.u64 (Aaj .u64 (iShl y (Aaj .u64 (64-Ad y)))) 4294967295)/\Sm (iOr IntKind.u64 (Aaj .u64 (iShl h (Aaj .u64 (64-Ad y)))) (iShr l (Aaj .u64 (iSub 64 (Aaj .u64 (64-Ad y))))))/\Sm (Aaj .u64 (iShl l (Aaj .u64 (64-Ad y))))/\Sm (iShr (Aaj .u64 (iShl l (Aaj .u64 (64-Ad y)))) 32)/\Sm (iAnd IntKind.u64 (Aaj .u64 (iShl l (Aaj .u64 (64-Ad y)))) 4294967295)/\∃(y_1:Int×Int),Nu (JA h l y) (Ey l y/4294967296) (Bi y) y_1.1 y_1.2/\Aaj .u64 (iSub x.1 1)=y_1.1/\Aaj .u64 (iAdd x.2 (iShr (Aaj .u64 (iShl y (Aaj .u64 (64-Ad y)))) 32))=y_1.2/\nLt y_1.1.toNat x.1.toNat
def Aib (h:Int) (l:Int) (y:Int) (x:Int×Int):Prop:=Sm h/\Sm l/\Sm (Aaj .u64 (iShl y (Aaj .u64 (64-Ad y))))/\Sm (Aaj .u64 (64-Ad y))/\Sm (iShr (Aaj .u64 (iShl y (Aaj .u64 (64-Ad y)))) 32)/\Sm (iAnd IntKind.u64 (Aaj .u64 (iShl y (Aaj .u64 (64-Ad y)))) 4294967295)/\Sm (iOr IntKind.u64 (Aaj .u64 (iShl h (Aaj .u64 (64-Ad y)))) (iShr l (Aaj .u64 (iSub 64 (Aaj .u64 (64-Ad y))))))/\Sm (Aaj .u64 (iShl l (Aaj .u64 (64-Ad y))))/\Sm (iShr (Aaj .u64 (iShl l (Aaj .u64 (64-Ad y)))) 32)/\Sm (iAnd IntKind.u64 (Aaj .u64 (iShl l (Aaj .u64 (64-Ad y)))) 4294967295)/\∃(y_1:Unit),True/\Aaj .u64 (iSub x.1 1)=GV h l y
theorem v211 (h:Int) (l:Int) (y:Int):InR .u64 h/\InR .u64 l/\InR .u64 y->h<y/\True->Cn (bEq y 0) False (Cn (bLe y h) False (Cn (bEq h 0) (pNe y 0/\pNe y 0/\Aaj .u64 (iQuo l y)=NP h l y/\iRem l y=Lm h l y) (True/\(InR .i64 (64-Ad y)->pSh 64 (Aaj .u64 (64-Ad y))/\pSh 64 32/\pSh 64 (Aaj .u64 (64-Ad y))/\pSh 64 (Aaj .u64 (iSub 64 (Aaj .u64 (64-Ad y))))/\pSh 64 (Aaj .u64 (64-Ad y))/\pSh 64 32/\pNe (iShr (Aaj .u64 (iShl y (Aaj .u64 (64-Ad y)))) 32) 0/\((∃(x:Int×Int),Nu (JA h l y) (Ey l y/4294967296) (Bi y) x.1 x.2/\Aaj .u64 (iQuo (iOr IntKind.u64 (Aaj .u64 (iShl h (Aaj .u64 (64-Ad y)))) (iShr l (Aaj .u64 (iSub 64 (Aaj .u64 (64-Ad y)))))) (iShr (Aaj .u64 (iShl y (Aaj .u64 (64-Ad y)))) 32))=x.1/\Aaj .u64 (iSub (iOr IntKind.u64 (Aaj .u64 (iShl h (Aaj .u64 (64-Ad y)))) (iShr l (Aaj .u64 (iSub 64 (Aaj .u64 (64-Ad y)))))) (Aaj .u64 (iMul (Aaj .u64 (iQuo (iOr IntKind.u64 (Aaj .u64 (iShl h (Aaj .u64 (64-Ad y)))) (iShr l (Aaj .u64 (iSub 64 (Aaj .u64 (64-Ad y)))))) (iShr (Aaj .u64 (iShl y (Aaj .u64 (64-Ad y)))) 32))) (iShr (Aaj .u64 (iShl y (Aaj .u64 (64-Ad y)))) 32))))=x.2)/\∀(x:Int×Int),Nu (JA h l y) (Ey l y/4294967296) (Bi y) x.1 x.2->InR .u64 x.1/\InR .u64 x.2->Cn (bLe 4294967296 x.1) (Cn (bLe 4294967296 (Aaj .u64 (iAdd x.2 (iShr (Aaj .u64 (iShl y (Aaj .u64 (64-Ad y)))) 32)))) ((Aib h l y x)) ((Aic h l y x))) (Cn (bLt (Aaj .u64 (iAdd (Aaj .u64 (iMul 4294967296 x.2)) (iShr (Aaj .u64 (iShl l (Aaj .u64 (64-Ad y)))) 32))) (Aaj .u64 (iMul x.1 (iAnd IntKind.u64 (Aaj .u64 (iShl y (Aaj .u64 (64-Ad y)))) 4294967295)))) (Cn (bLe 4294967296 (Aaj .u64 (iAdd x.2 (iShr (Aaj .u64 (iShl y (Aaj .u64 (64-Ad y)))) 32)))) ((Aib h l y x)) ((Aic h l y x))) (Sm h/\Sm l/\Sm (Aaj .u64 (iShl y (Aaj .u64 (64-Ad y))))/\Sm (Aaj .u64 (64-Ad y))/\Sm (iShr (Aaj .u64 (iShl y (Aaj .u64 (64-Ad y)))) 32)/\Sm (iAnd IntKind.u64 (Aaj .u64 (iShl y (Aaj .u64 (64-Ad y)))) 4294967295)/\Sm (iOr IntKind.u64 (Aaj .u64 (iShl h (Aaj .u64 (64-Ad y)))) (iShr l (Aaj .u64 (iSub 64 (Aaj .u64 (64-Ad y))))))/\Sm (Aaj .u64 (iShl l (Aaj .u64 (64-Ad y))))/\Sm (iShr (Aaj .u64 (iShl l (Aaj .u64 (64-Ad y)))) 32)/\Sm (iAnd IntKind.u64 (Aaj .u64 (iShl l (Aaj .u64 (64-Ad y)))) 4294967295)/\∃(y_1:Unit),True/\x.1=GV h l y)))/\∀(x:Unit),True->InR .u64 (GV h l y)->pNe (iShr (Aaj .u64 (iShl y (Aaj .u64 (64-Ad y)))) 32) 0/\((∃(x:Int×Int),Nu (Md h l y) (Ey l y % 4294967296) (Bi y) x.1 x.2/\Aaj .u64 (iQuo (Aaj .u64 (iSub (Aaj .u64 (iAdd (Aaj .u64 (iMul (iOr IntKind.u64 (Aaj .u64 (iShl h (Aaj .u64 (64-Ad y)))) (iShr l (Aaj .u64 (iSub 64 (Aaj .u64 (64-Ad y)))))) 4294967296)) (iShr (Aaj .u64 (iShl l (Aaj .u64 (64-Ad y)))) 32))) (Aaj .u64 (iMul (GV h l y) (Aaj .u64 (iShl y (Aaj .u64 (64-Ad y)))))))) (iShr (Aaj .u64 (iShl y (Aaj .u64 (64-Ad y)))) 32))=x.1/\Aaj .u64 (iSub (Aaj .u64 (iSub (Aaj .u64 (iAdd (Aaj .u64 (iMul (iOr IntKind.u64 (Aaj .u64 (iShl h (Aaj .u64 (64-Ad y)))) (iShr l (Aaj .u64 (iSub 64 (Aaj .u64 (64-Ad y)))))) 4294967296)) (iShr (Aaj .u64 (iShl l (Aaj .u64 (64-Ad y)))) 32))) (Aaj .u64 (iMul (GV h l y) (Aaj .u64 (iShl y (Aaj .u64 (64-Ad y)))))))) (Aaj .u64 (iMul (Aaj .u64 (iQuo (Aaj .u64 (iSub (Aaj .u64 (iAdd (Aaj .u64 (iMul (iOr IntKind.u64 (Aaj .u64 (iShl h (Aaj .u64 (64-Ad y)))) (iShr l (Aaj .u64 (iSub 64 (Aaj .u64 (64-Ad y)))))) 4294967296)) (iShr (Aaj .u64 (iShl l (Aaj .u64 (64-Ad y)))) 32))) (Aaj .u64 (iMul (GV h l y) (Aaj .u64 (iShl y (Aaj .u64 (64-Ad y)))))))) (iShr (Aaj .u64 (iShl y (Aaj .u64 (64-Ad y)))) 32))) (iShr (Aaj .u64 (iShl y (Aaj .u64 (64-Ad y)))) 32))))=x.2)/\∀(x:Int×Int),Nu (Md h l y) (Ey l y % 4294967296) (Bi y) x.1 x.2->InR .u64 x.1/\InR .u64 x.2->Cn (bLe 4294967296 x.1) (Cn (bLe 4294967296 (Aaj .u64 (iAdd x.2 (iShr (Aaj .u64 (iShl y (Aaj .u64 (64-Ad y)))) 32)))) ((Aid h l y x)) ((Aie h l y x))) (Cn (bLt (Aaj .u64 (iAdd (Aaj .u64 (iMul 4294967296 x.2)) (iAnd IntKind.u64 (Aaj .u64 (iShl l (Aaj .u64 (64-Ad y)))) 4294967295))) (Aaj .u64 (iMul x.1 (iAnd IntKind.u64 (Aaj .u64 (iShl y (Aaj .u64 (64-Ad y)))) 4294967295)))) (Cn (bLe 4294967296 (Aaj .u64 (iAdd x.2 (iShr (Aaj .u64 (iShl y (Aaj .u64 (64-Ad y)))) 32)))) ((Aid h l y x)) ((Aie h l y x))) (Sm h/\Sm l/\Sm (Aaj .u64 (iShl y (Aaj .u64 (64-Ad y))))/\Sm (Aaj .u64 (64-Ad y))/\Sm (iShr (Aaj .u64 (iShl y (Aaj .u64 (64-Ad y)))) 32)/\Sm (iAnd IntKind.u64 (Aaj .u64 (iShl y (Aaj .u64 (64-Ad y)))) 4294967295)/\Sm (iOr IntKind.u64 (Aaj .u64 (iShl h (Aaj .u64 (64-Ad y)))) (iShr l (Aaj .u64 (iSub 64 (Aaj .u64 (64-Ad y))))))/\Sm (Aaj .u64 (iShl l (Aaj .u64 (64-Ad y))))/\Sm (iShr (Aaj .u64 (iShl l (Aaj .u64 (64-Ad y)))) 32)/\Sm (iAnd IntKind.u64 (Aaj .u64 (iShl l (Aaj .u64 (64-Ad y)))) 4294967295)/\Sm (GV h l y)/\Sm (Aaj .u64 (iSub (Aaj .u64 (iAdd (Aaj .u64 (iMul (iOr IntKind.u64 (Aaj .u64 (iShl h (Aaj .u64 (64-Ad y)))) (iShr l (Aaj .u64 (iSub 64 (Aaj .u64 (64-Ad y)))))) 4294967296)) (iShr (Aaj .u64 (iShl l (Aaj .u64 (64-Ad y)))) 32))) (Aaj .u64 (iMul (GV h l y) (Aaj .u64 (iShl y (Aaj .u64 (64-Ad y))))))))/\∃(y_1:Unit),True/\x.1=Mc h l y)))/\∀(x:Unit),True->InR .u64 (Mc h l y)->pSh 64 (Aaj .u64 (64-Ad y))/\Aaj .u64 (iAdd (Aaj .u64 (iMul (GV h l y) 4294967296)) (Mc h l y))=NP h l y/\iShr (Aaj .u64 (iSub (Aaj .u64 (iAdd (Aaj .u64 (iMul (Aaj .u64 (iSub (Aaj .u64 (iAdd (Aaj .u64 (iMul (iOr IntKind.u64 (Aaj .u64 (iShl h (Aaj .u64 (64-Ad y)))) (iShr l (Aaj .u64 (iSub 64 (Aaj .u64 (64-Ad y)))))) 4294967296)) (iShr (Aaj .u64 (iShl l (Aaj .u64 (64-Ad y)))) 32))) (Aaj .u64 (iMul (GV h l y) (Aaj .u64 (iShl y (Aaj .u64 (64-Ad y)))))))) 4294967296)) (iAnd IntKind.u64 (Aaj .u64 (iShl l (Aaj .u64 (64-Ad y)))) 4294967295))) (Aaj .u64 (iMul (Mc h l y) (Aaj .u64 (iShl y (Aaj .u64 (64-Ad y)))))))) (Aaj .u64 (64-Ad y))=Lm h l y)))):=by
 intro hw hp;delta Aie Aid Aic Aib;simp only[Cn_iff,Aas,true_and];simp only[Wfs,Wf,InR,and_true]at hw;have F:=Wl (h:=h) (l:=l) (y:=y) (by omega) (by omega) (by omega) (by omega) hp.1;have W:∀e:Int,0<=e->e<=18446744073709551615->Aaj .u64 e=e:=λe h0 h1=>Bv h0 h1;have c32:pSh 64 32:=by decide
 have cS:pSh 64 (64-Ad y):=⟨F.s0,by have:=F.s1; have:=F.s0; omega⟩
 have cT:pSh 64 (64- (64-Ad y)):=⟨by have:=F.s1; omega,by have:=F.s1; have:=F.s0; omega⟩
 have s5:=F.d0;have s6:=F.d1;have s7:=F.u0;have s8:=F.u1;have s9:=F.b0;have s10:=F.b1;have hsh:iShl y (64-Ad y)=y*NQ y:=rfl;refine⟨λhy=> ?_,λ_=>⟨λhy=> ?_,λ_=>⟨λh0=>⟨?_,?_,?_,?_⟩,λh0=>λ_=> ?_⟩⟩⟩
 · simp only[bEq,decide_eq_true_eq]at hy; omega
 · simp only[bLe,decide_eq_true_eq]at hy; omega
 · show y≠0; omega
 · show y≠0; omega
 · simp only[bEq,decide_eq_true_eq]at h0;subst h0;have:=Int.ediv_nonneg (a:=l) (b:=y) (by omega) (by omega);have:=Int.ediv_le_self (a:=l) y (by omega);have e:iQuo l y=l/y:=Int.tdiv_eq_ediv_of_nonneg (by omega);rw[e,W _ (by omega) (by omega)];simp[NP]
 · simp only[bEq,decide_eq_true_eq]at h0;subst h0;show l.tmod y=_;rw[Int.tmod_eq_emod_of_nonneg (by omega)];simp[Lm]
 rw[F.e0,F.e2,F.e4,F.e1,F.e3,Ri (Bi y),Ri (Ey l y)];rw[Qj (x:=Bi y) (by omega) (by omega),Qj (x:=Ey l y) (by omega) (by omega)];have q1':GV h l y=(JA h l y*4294967296+Ey l y/4294967296)/Bi y:=rfl;have a1':Md h l y=JA h l y*4294967296+Ey l y/4294967296-GV h l y*Bi y:=rfl;have q0':Mc h l y=(Md h l y*4294967296+Ey l y % 4294967296)/Bi y:=rfl;have eq:=F.eq;have p0:=F.p0;have dD:Bi y=y*NQ y:=rfl;have tl:=TA (N:=JA h l y*4294967296+Ey l y/4294967296) (D:=Bi y) (by omega);rw[←q1',←a1']at tl;have tm:=TA (N:=Md h l y*4294967296+Ey l y % 4294967296) (D:=Bi y) (by omega);rw[←q0']at tm;have i1:=G9.init (a:=JA h l y) (u:=Ey l y/4294967296) (D:=Bi y) (by omega) (by omega) (by omega) (by omega) (by omega) (by omega);have i2:=G9.init (a:=Md h l y) (u:=Ey l y % 4294967296) (D:=Bi y) (by omega) (by omega) (by omega) (by omega) (by omega) (by omega);have v1:2147483648<=Bi y/4294967296:=by omega
 have Q1:0<=GV h l y/\GV h l y<4294967296:=⟨by rw[q1']; exact Int.ediv_nonneg (by omega) (by omega),by rw[q1']; exact PZ (by omega) (by omega) (by omega)⟩
 have Q0:0<=Mc h l y/\Mc h l y<4294967296:=⟨by rw[q0']; exact Int.ediv_nonneg (by omega) (by omega),by rw[q0']; exact PZ (by omega) (by omega) (by omega)⟩
 have digit:∀a u:Int,0<=a->a<Bi y->0<=u->u<4294967296->∀Q:Int,Q=(a*4294967296+u)/Bi y->∀x:Int×Int,Nu a u (Bi y) x.1 x.2->
  Aaj .u64 (iAdd (Aaj .u64 (iMul 4294967296 x.2)) u)=4294967296*x.2+u/\Aaj .u64 (iMul x.1 (Bi y % 4294967296))=x.1*(Bi y % 4294967296)/\
  (x.1<4294967296->¬4294967296*x.2+u<x.1*(Bi y % 4294967296)->x.1=Q)/\
  (4294967296<=x.1∨4294967296*x.2+u<x.1*(Bi y % 4294967296)->Aaj .u64 (iSub x.1 1)=x.1-1/\Aaj .u64 (iAdd x.2 (Bi y/4294967296))=x.2+Bi y/4294967296/\1<=x.1/\
   (x.2+Bi y/4294967296<4294967296->Nu a u (Bi y) (x.1-1) (x.2+Bi y/4294967296))/\(4294967296<=x.2+Bi y/4294967296->x.1-1=Q)):=by
  intro a u ha ha' hu hu' Q hQ x hd;have hd':G9 a u (Bi y) x.1 x.2:=hd;have b1:=hd'.bd s5 s6;have b2:=hd'.r0;have b3:=hd'.r1;have b4:=hd'.q1;refine⟨?_,W _ b1.1 b1.2,λh1 h2=>by rw[hQ]; exact hd'.stop (by omega) (by omega),λhc=> ?_⟩
  · rw[W (iMul 4294967296 x.2) (by simp only[iMul]; omega) (by simp only[iMul]; omega)];exact W _ (by simp only[iAdd,iMul]; omega) (by simp only[iAdd,iMul]; omega)
  · have d:=hd'.dec s5 s6 ha ha' hu hu' hc;exact⟨W _ (by simp only[iSub]; omega) (by simp only[iSub]; omega),W _ d.2.1 d.2.2.1,d.1,λh=>d.2.2.2.1 h,λh=>by rw[hQ]; exact d.2.2.2.2 h⟩
 have D1:=digit (JA h l y) (Ey l y/4294967296) (by omega) (by omega) (by omega) (by omega) (GV h l y) q1';have D0:=digit (Md h l y) (Ey l y % 4294967296) (by omega) (by omega) (by omega) (by omega) (Mc h l y) q0';clear digit;have A1:Aaj .u64 (iSub (Aaj .u64 (iAdd (Aaj .u64 (iMul (JA h l y) 4294967296)) (Ey l y/4294967296))) (Aaj .u64 (iMul (GV h l y) (Bi y))))=Md h l y:=by
  simp only[iAdd,iSub,iMul,Lh];omega
 have A0:Aaj .u64 (iSub (Aaj .u64 (iAdd (Aaj .u64 (iMul (Md h l y) 4294967296)) (Ey l y % 4294967296))) (Aaj .u64 (iMul (Mc h l y) (Bi y))))=Md h l y*4294967296+Ey l y % 4294967296-Mc h l y*Bi y:=by
  simp only[iAdd,iSub,iMul,Lh];omega
 have ini:∀a u:Int,0<=a->a<Bi y->G9 a u (Bi y) (a/(Bi y/4294967296)) (a-a/(Bi y/4294967296)*(Bi y/4294967296))->
  Aaj .u64 (iQuo a (Bi y/4294967296))=a/(Bi y/4294967296)/\Aaj .u64 (iSub a (Aaj .u64 (iMul (a/(Bi y/4294967296)) (Bi y/4294967296))))=a-a/(Bi y/4294967296)*(Bi y/4294967296):=by
  intro a u h0 h1 hd;have b2:=hd.r0;have b3:=hd.q0;have b4:=hd.q1;have b5:=Int.mul_nonneg b3 (show 0<=Bi y/4294967296 by omega);have e:iQuo a (Bi y/4294967296)=a/(Bi y/4294967296):=Int.tdiv_eq_ediv_of_nonneg h0;refine⟨by rw[e]; exact W _ b3 (by omega),?_⟩;rw[W (iMul _ _) b5 (by simp only[iMul]; omega)];exact W _ (by simp only[iSub,iMul]; omega) (by simp only[iSub,iMul]; omega)
 have I1:=ini _ _ s7 s8 i1;have I0:=ini _ _ tl.1 tl.2 i2;clear ini;rw[A1];rw[I1.1,I1.2,I0.1,I0.2];refine⟨cS,c32,cS,cT,cS,c32,by show Bi y/4294967296≠0; omega,⟨⟨(_,_),i1,rfl,rfl⟩,λx hx _=> ?_⟩,λ_ _ _=>⟨by show Bi y/4294967296≠0; omega,⟨⟨(_,_),i2,rfl,rfl⟩,λx hx _=> ?_⟩,λ_ _ _=> ?_⟩⟩
 · have d:=D1 x hx;rw[d.1,d.2.1];simp only[bLe,bLt,decide_eq_true_eq,decide_eq_false_iff_not];refine⟨λh1=> ?_,λh1=>⟨λh2=> ?_,λh2=> ?_⟩⟩;rotate_left
   · obtain⟨e1,e2,e3,e4,e5⟩:=d.2.2.2 (.inr h2);rw[e1,e2];exact⟨λh3=>⟨(),e5 h3⟩,λh3=>⟨(_,_),e4 (by omega),rfl,rfl,by simp only; omega⟩⟩
   · exact⟨(),d.2.2.1 (by omega) h2⟩
   · obtain⟨e1,e2,e3,e4,e5⟩:=d.2.2.2 (.inl h1);rw[e1,e2];exact⟨λh3=>⟨(),e5 h3⟩,λh3=>⟨(_,_),e4 (by omega),rfl,rfl,by simp only; omega⟩⟩
 · have d:=D0 x hx;rw[d.1,d.2.1];simp only[bLe,bLt,decide_eq_true_eq,decide_eq_false_iff_not];refine⟨λh1=> ?_,λh1=>⟨λh2=> ?_,λh2=> ?_⟩⟩;rotate_left
   · obtain⟨e1,e2,e3,e4,e5⟩:=d.2.2.2 (.inr h2);rw[e1,e2];exact⟨λh3=>⟨(),e5 h3⟩,λh3=>⟨(_,_),e4 (by omega),rfl,rfl,by simp only; omega⟩⟩
   · exact⟨(),d.2.2.1 (by omega) h2⟩
   · obtain⟨e1,e2,e3,e4,e5⟩:=d.2.2.2 (.inl h1);rw[e1,e2];exact⟨λh3=>⟨(),e5 h3⟩,λh3=>⟨(_,_),e4 (by omega),rfl,rfl,by simp only; omega⟩⟩
 · rw [A0];have sh : ∀ R : Int, iShr R (64 - Ad y) = R / NQ y := λR => Int.fdiv_eq_ediv_of_nonneg _ (by show 0 <= NQ y; omega);have fin := Xz (H := h * 18446744073709551616 + l) (y := y) (p := NQ y) (Q := GV h l y * 4294967296 + Mc h l y) (R := Md h l y * 4294967296 + Ey l y % 4294967296 - Mc h l y * Bi y) p0 (by omega)
    (by rw[eq,←dD,Int.add_mul,Int.mul_right_comm (GV h l y)]; omega) tm.1 (by rw[←dD]; exact tm.2)
   refine⟨cS,?_,?_⟩
   · rw[W (iMul _ _) (by simp only[iMul]; omega) (by simp only[iMul]; omega),W _ (by simp only[iAdd,iMul]; omega) (by simp only[iAdd,iMul]; omega)];exact fin.1.symm
   · rw[sh];exact fin.2.symm
def r211:Cr PR:=Kw (λ_=>true) [r239] 211 6 {ps:=[(false,[.int .u64]),(false,[.int .u64]),(false,[.int .u64])],rs:=[(false,[.int .u64]),(false,[.int .u64])],pre:=λa=>(I a 0 0)<(I a 2 0)/\True,out:=λa=>[[.i (NP (I a 0 0) (I a 1 0) (I a 2 0))],[.i (Lm (I a 0 0) (I a 1 0) (I a 2 0))]]} (λa=>A211 (I a 0 0) (I a 1 0) (I a 2 0)) λa=>Y (v211 (I a 0 0) (I a 1 0) (I a 2 0))
end Go.Sx

set_option linter.unusedVariables false
set_option linter.unusedSimpArgs false
set_option maxRecDepth 100000
set_option maxHeartbeats 4000000
namespace Go
open Go.Sx
def BA (n:Int):Int:=if n<0 then-n else n
def AB (n a b:Int):Int:=n*a/b
def Ee (n a b:Int):Int:=n*a % b
def H8 (n a b:Int):Int:= -(-n*a/b)
def BN (n a b:Int):Int:=BA n*a/b
def Bz (v:Int):Bool:=decide (-4611686018427387904<=v/\v<=4611686018427387904)
def Ce (n a b:Int):Bool:=decide (BN n a b<=4611686018427387904)
def En (n a b:Int):Int:=bif Ce n a b then AB n a b else 0
def Ff (n a b:Int):Int:=bif Ce n a b then Ee n a b else 0
def E5 (n a b:Int):Int:=bif Bz (AB n a b)then AB n a b else 0
def FQ (n a b:Int):Int:=bif Bz (AB n a b)then Ee n a b else 0
def DL (n a b:Int):Int:=if Ai a b=false then 1 else if n< -1125899906842624∨1125899906842624<n then 2 else 0
def CW (n a b:Int):Int:=if DL n a b≠0 then DL n a b else bif Bz (AB n a b)then 0 else 2
def Dp (n a b:Int):Int:=if CW n a b=0 then AB n a b else 0
def Jb (n a b:Int):Int:=if CW n a b=0 then Ee n a b else 0
def CP (n a b:Int):Int:=if DL n a b≠0 then DL n a b else bif Bz (H8 n a b)then 0 else 2
def BQ (n a b:Int):Int:=if CP n a b=0 then H8 n a b else 0
end Go
namespace Go
open Go.Sx
theorem Uf {m b:Int} (hb:1<=b):(m % b=0->-m/b= -(m/b)/\-m % b=0)/\(m % b≠0->-m/b= -(m/b)-1/\-m % b=b-m % b):=by
 have d1:=Int.emod_add_mul_ediv m b;have d2:=Int.emod_nonneg m (show b≠0 by omega);have d3:=Int.emod_lt_of_pos m (show 0<b by omega);constructor
 · intro h;have:=(Int.ediv_emod_unique (a:= -m) (b:=b) (r:=0) (q:= -(m/b)) (by omega)).2 ⟨by rw[Int.mul_neg]; omega,by omega,by omega⟩;exact this
 · intro h;have:=(Int.ediv_emod_unique (a:= -m) (b:=b) (r:=b-m % b) (q:= -(m/b)-1) (by omega)).2 ⟨by rw[Int.mul_sub,Int.mul_neg]; omega,by omega,by omega⟩;exact this
theorem Qs (x y b:Int):NP (BC x y) (Bo x y) b=x*y/b/\Lm (BC x y) (Bo x y) b=x*y % b:=by
 have e:BC x y*18446744073709551616+Bo x y=x*y:=by unfold BC Bo; omega
 unfold NP Lm;rw[e]; exact⟨rfl,rfl⟩
structure Aae (n a b:Int):Prop where
 q0:0<=BN n a b
 m0:0<=BA n*a
 m1:BA n*a<=77371252455336267181195264
 r0:0<=BA n*a % b
 r1:BA n*a % b<b
 qe:BA n*a/b=BN n a b
 hi0:0<=BC (BA n) a
 hi:b<=BC (BA n) a->4611686018427387904<BN n a b
 pos:0<=n->AB n a b=BN n a b/\Ee n a b=BA n*a % b
 neg0:n<0->BA n*a % b=0->AB n a b= -(BN n a b)/\Ee n a b=0
 neg1:n<0->BA n*a % b≠0->AB n a b= -(BN n a b)-1/\Ee n a b=b-BA n*a % b
theorem Xk {n a b:Int} (h:1<=a/\a<=68719476736/\1<=b/\b<=68719476736/\-1125899906842624<=n/\n<=1125899906842624):Aae n a b:=by
 have hab:0<=BA n/\BA n<=1125899906842624:=by unfold BA; split<;>omega
 have m:=Aap (x:=BA n) (X:=1125899906842624) (y:=a) (Y:=68719476736) hab.1 hab.2 (by omega) (by omega);have nd:=Uf (m:=BA n*a) (b:=b) (by omega);have en:n<0->n*a= -(BA n*a):=λhn=>by unfold BA; rw[if_pos hn,Int.neg_mul,Int.neg_neg]
 have ep:0<=n->n*a=BA n*a:=λhn=>by unfold BA; rw[if_neg (by omega)]
 refine⟨Int.ediv_nonneg m.1 (by omega),m.1,by omega,Int.emod_nonneg _ (by omega),Int.emod_lt_of_pos _ (by omega),rfl,Int.ediv_nonneg m.1 (by omega),λhb=> ?_,λhn=> ?_,λhn hr=> ?_,λhn hr=> ?_⟩
 · have:b*18446744073709551616<=BA n*a:=by unfold BC at hb; omega
   have:=RH (N:=BA n*a) (D:=b) (q:=18446744073709551616) (by omega) (by omega);show _<BA n*a/b;omega
 · unfold AB Ee BN; rw[ep hn]; exact⟨rfl,rfl⟩
 · unfold AB Ee BN; rw[en hn]; exact nd.1 hr
 · unfold AB Ee BN; rw[en hn]; exact nd.2 hr
theorem UN {n:Int} (h: -9223372036854775808<=n/\n<=9223372036854775807):(n<0->Aaj .u64 (iSub 0 (Aaj .u64 n))=BA n)/\(0<=n->Aaj .u64 n=BA n):=by
 unfold BA;constructor
 · intro hn; rw[if_pos hn]; simp only[Lh,iSub]; omega
 · intro hn; rw[if_neg (by omega)]; simp only[Lh]; omega
theorem GY {e:Int} (h0: -9223372036854775808<=e) (h1:e<=9223372036854775807):Aaj .i64 e=e:=InR.wrap (by simp only[InR]; omega)
theorem DU {a b:Int} (h:Ai a b=true):1<=a/\a<=68719476736/\1<=b/\b<=68719476736/\Ag a b=1:=by
 unfold Ai at h; simp only[decide_eq_true_eq]at h; omega
end Go
namespace Go.Sx
def AfS (n:Int) (a:Int):Int:=(BC (Aaj .u64 (iSub 0 (Aaj .u64 n))) (Aaj .u64 a))
def Ag1 (n:Int) (a:Int):Int:=(Bo (Aaj .u64 (iSub 0 (Aaj .u64 n))) (Aaj .u64 a))
def AeN (n:Int) (a:Int) (b:Int):Int:=(NP (BC (Aaj .u64 n) (Aaj .u64 a)) (Bo (Aaj .u64 n) (Aaj .u64 a)) (Aaj .u64 b))
def AeM (n:Int) (a:Int) (b:Int):Int:=(Lm (BC (Aaj .u64 n) (Aaj .u64 a)) (Bo (Aaj .u64 n) (Aaj .u64 a)) (Aaj .u64 b))
def AfR (n:Int) (a:Int) (b:Int):Prop:=0=En n a b/\0=Ff n a b/\false=Ce n a b
def AeL (n:Int) (a:Int) (b:Int):Int:=(NP (AfS n a) (Ag1 n a) (Aaj .u64 b))
def AeK (n:Int) (a:Int) (b:Int):Int:=(Lm (AfS n a) (Ag1 n a) (Aaj .u64 b))
theorem v206 (n:Int) (a:Int) (b:Int):InR .i64 n/\InR .i64 a/\InR .i64 b->1<=a/\a<=68719476736/\1<=b/\b<=68719476736/\-1125899906842624<=n/\n<=1125899906842624->Cn (bLt n 0) (True/\(InR .u64 (AfS n a)/\InR .u64 (Ag1 n a)->Cn (bLe (Aaj .u64 b) (AfS n a)) ((AfR n a b)) ((BC (Aaj .u64 (iSub 0 (Aaj .u64 n))) (Aaj .u64 a)<Aaj .u64 b/\True)/\(InR .u64 (AeL n a b)/\InR .u64 (AeK n a b)->Cn (bLt 4611686018427387904 (AeL n a b)) ((AfR n a b)) (Cn (bLt n 0) (Cn (bLt 0 (Aaj .i64 (AeK n a b))) (Aaj .i64 (iSub (Aaj .i64 (iSub 0 (Aaj .i64 (AeL n a b)))) 1)=En n a b/\Aaj .i64 (iSub b (Aaj .i64 (AeK n a b)))=Ff n a b/\true=Ce n a b) (Aaj .i64 (iSub 0 (Aaj .i64 (AeL n a b)))=En n a b/\Aaj .i64 (AeK n a b)=Ff n a b/\true=Ce n a b)) (Aaj .i64 (AeL n a b)=En n a b/\Aaj .i64 (AeK n a b)=Ff n a b/\true=Ce n a b)))))) (True/\(InR .u64 (BC (Aaj .u64 n) (Aaj .u64 a))/\InR .u64 (Bo (Aaj .u64 n) (Aaj .u64 a))->Cn (bLe (Aaj .u64 b) (BC (Aaj .u64 n) (Aaj .u64 a))) ((AfR n a b)) ((BC (Aaj .u64 n) (Aaj .u64 a)<Aaj .u64 b/\True)/\(InR .u64 (AeN n a b)/\InR .u64 (AeM n a b)->Cn (bLt 4611686018427387904 (AeN n a b)) ((AfR n a b)) (Cn (bLt n 0) (Cn (bLt 0 (Aaj .i64 (AeM n a b))) (Aaj .i64 (iSub (Aaj .i64 (iSub 0 (Aaj .i64 (AeN n a b)))) 1)=En n a b/\Aaj .i64 (iSub b (Aaj .i64 (AeM n a b)))=Ff n a b/\true=Ce n a b) (Aaj .i64 (iSub 0 (Aaj .i64 (AeN n a b)))=En n a b/\Aaj .i64 (AeM n a b)=Ff n a b/\true=Ce n a b)) (Aaj .i64 (AeN n a b)=En n a b/\Aaj .i64 (AeM n a b)=Ff n a b/\true=Ce n a b)))))):=by
 intro hw hp;delta AfS Ag1 AeN AeM AfR AeL AeK;simp only[Cn_iff,Aas,true_and];simp only[Wfs,Wf,InR,and_true]at hw;have F:=Xk hp;have A:=UN (n:=n) (by omega);have wa:Aaj .u64 a=a:=Bv (by omega) (by omega);have wb:Aaj .u64 b=b:=Bv (by omega) (by omega);rw[wa,wb];have hm:=F.hi0;have k1:=F.q0;have k2:=F.r0;have k3:=F.r1;have k4:=F.hi;have k5:=F.pos;have k6:=F.neg0;have k7:=F.neg1;have v1:NP (BC (BA n) a) (Bo (BA n) a) b=BN n a b:=(Qs _ _ _).1;have v2:Lm (BC (BA n) a) (Bo (BA n) a) b=BA n*a % b:=(Qs _ _ _).2;have okI:(BN n a b<=4611686018427387904->Ce n a b=true/\En n a b=AB n a b/\Ff n a b=Ee n a b)/\(4611686018427387904<BN n a b->Ce n a b=false/\En n a b=0/\Ff n a b=0):=by
  constructor
  · intro h;have e:Ce n a b=true:=by unfold Ce; simpa using h
    exact⟨e,by unfold En; rw[e]; rfl,by unfold Ff; rw[e]; rfl⟩
  · intro h;have e:Ce n a b=false:=by unfold Ce; simp; omega
    exact⟨e,by unfold En; rw[e]; rfl,by unfold Ff; rw[e]; rfl⟩
 have erI:(-4611686018427387904<=AB n a b/\AB n a b<=4611686018427387904->Bz (AB n a b)=true/\E5 n a b=AB n a b/\FQ n a b=Ee n a b)/\(¬(-4611686018427387904<=AB n a b/\AB n a b<=4611686018427387904)->Bz (AB n a b)=false/\E5 n a b=0/\FQ n a b=0):=by
  constructor
  · intro h;have e:Bz (AB n a b)=true:=by unfold Bz; simpa using h
    exact⟨e,by unfold E5; rw[e]; rfl,by unfold FQ; rw[e]; rfl⟩
  · intro h;have e:Bz (AB n a b)=false:=by unfold Bz; simp; omega
    exact⟨e,by unfold E5; rw[e]; rfl,by unfold FQ; rw[e]; rfl⟩
 have wq:BN n a b<=4611686018427387904->Aaj .i64 (BN n a b)=BN n a b:=λh=>GY (by omega) (by omega);have w0:BN n a b<=4611686018427387904->Aaj .i64 (iSub 0 (BN n a b))= -(BN n a b):=λh=>by rw[GY (by simp only[iSub]; omega) (by simp only[iSub]; omega)]; simp only[iSub]; omega
 have w1:BN n a b<=4611686018427387904->Aaj .i64 (iSub (-(BN n a b)) 1)= -(BN n a b)-1:=λh=>GY (by simp only[iSub]; omega) (by simp only[iSub]; omega);have wR:Aaj .i64 (BA n*a % b)=BA n*a % b:=GY (by omega) (by omega);have wbR:Aaj .i64 (iSub b (BA n*a % b))=b-BA n*a % b:=GY (by simp only[iSub]; omega) (by simp only[iSub]; omega);refine⟨λh=> ?_,λh=> ?_⟩
 · simp only[bLt,decide_eq_true_eq]at h;have hW:=A.1 h;rw[hW,v1,v2];clear v1 v2 hW;generalize BC (BA n) a=mh at*;generalize Bo (BA n) a=ml at*;generalize BA n*a % b=R at*;generalize BN n a b=Q at*;generalize AB n a b=fl at*;generalize Ee n a b=re at*;generalize Ce n a b=okq at*;generalize Bz fl=inr at*;generalize En n a b=dF at*;generalize Ff n a b=dR at*;generalize E5 n a b=eF at*;generalize FQ n a b=eR at*;simp only[bLt,bLe,bEq,bNe,bNot,Bool.not_eq_true',Bool.not_eq_false',decide_eq_true_eq,decide_eq_false_iff_not,true_and,and_true]
   repeat' (first|apply And.intro|intro _)
   all_goals (first
    |trivial
    |omega
    |exact(okI.1 (by omega)).1.symm
    |exact(okI.2 (by omega)).1.symm
    |exact(erI.1 (by omega)).1.symm
    |exact(erI.2 (by omega)).1.symm
    |(have hq:Q<=4611686018427387904:=(by omega); (try rw[wq hq]); (try rw[w0 hq]); (try rw[w1 hq]); (try rw[wR]); (try rw[wbR]); first|(have:=okI.1 hq; omega)|(have:=erI.1 (by omega); omega)|(have:=erI.2 (by omega); omega))
    |(have:=okI.2 (by omega); omega)
    |(have:=erI.2 (by omega); omega))
 · simp only[bLt,decide_eq_false_iff_not]at h;have hW:=A.2 (by omega);rw[hW,v1,v2];clear v1 v2 hW;generalize BC (BA n) a=mh at*;generalize Bo (BA n) a=ml at*;generalize BA n*a % b=R at*;generalize BN n a b=Q at*;generalize AB n a b=fl at*;generalize Ee n a b=re at*;generalize Ce n a b=okq at*;generalize Bz fl=inr at*;generalize En n a b=dF at*;generalize Ff n a b=dR at*;generalize E5 n a b=eF at*;generalize FQ n a b=eR at*;simp only[bLt,bLe,bEq,bNe,bNot,Bool.not_eq_true',Bool.not_eq_false',decide_eq_true_eq,decide_eq_false_iff_not,true_and,and_true]
   repeat' (first|apply And.intro|intro _)
   all_goals (first
    |trivial
    |omega
    |exact(okI.1 (by omega)).1.symm
    |exact(okI.2 (by omega)).1.symm
    |exact(erI.1 (by omega)).1.symm
    |exact(erI.2 (by omega)).1.symm
    |(have hq:Q<=4611686018427387904:=(by omega); (try rw[wq hq]); (try rw[w0 hq]); (try rw[w1 hq]); (try rw[wR]); (try rw[wbR]); first|(have:=okI.1 hq; omega)|(have:=erI.1 (by omega); omega)|(have:=erI.2 (by omega); omega))
    |(have:=okI.2 (by omega); omega)
    |(have:=erI.2 (by omega); omega))
def r206:Cr PR:=Kw (λ_=>true) [r202,r211] 206 6 {ps:=[(false,hI),(true,hII)],rs:=[(false,hI),(false,hI),(false,[.bool])],pre:=λa=>1<=(I a 1 0)/\(I a 1 0)<=68719476736/\1<=(I a 1 1)/\(I a 1 1)<=68719476736/\-1125899906842624<=(I a 0 0)/\(I a 0 0)<=1125899906842624,out:=λa=>[[.i (En (I a 0 0) (I a 1 0) (I a 1 1))],[.i (Ff (I a 0 0) (I a 1 0) (I a 1 1))],[.b (Ce (I a 0 0) (I a 1 0) (I a 1 1))]]} U λa=>Y (v206 (I a 0 0) (I a 1 0) (I a 1 1))
end Go.Sx
namespace Go.Sx
def Ad7 (n:Int) (a:Int) (b:Int):Int:=(NP (BC (Aaj .u64 (iSub 0 (Aaj .u64 n))) (Aaj .u64 a)) (Bo (Aaj .u64 (iSub 0 (Aaj .u64 n))) (Aaj .u64 a)) (Aaj .u64 b))
def Ad6 (n:Int) (a:Int):Int:=(BC (Aaj .u64 (iSub 0 (Aaj .u64 n))) (Aaj .u64 a))
def AeO (n:Int) (a:Int):Int:=(Bo (Aaj .u64 (iSub 0 (Aaj .u64 n))) (Aaj .u64 a))
def Ad5 (n:Int) (a:Int) (b:Int):Int:=(NP (BC (Aaj .u64 n) (Aaj .u64 a)) (Bo (Aaj .u64 n) (Aaj .u64 a)) (Aaj .u64 b))
def Ad4 (n:Int) (a:Int) (b:Int):Prop:=0=E5 n a b/\0=FQ n a b/\false=Bz (AB n a b)
def AfX (n:Int) (a:Int) (b:Int):Int:=(Lm (BC (Aaj .u64 n) (Aaj .u64 a)) (Bo (Aaj .u64 n) (Aaj .u64 a)) (Aaj .u64 b))
theorem v161 (n:Int) (a:Int) (b:Int):InR .i64 n/\InR .i64 a/\InR .i64 b->1<=a/\a<=68719476736/\1<=b/\b<=68719476736/\-1125899906842624<=n/\n<=1125899906842624->Cn (bLt n 0) (True/\(InR .u64 (Ad6 n a)/\InR .u64 (AeO n a)->Cn (bLe (Aaj .u64 b) (Ad6 n a)) ((Ad4 n a b)) ((BC (Aaj .u64 (iSub 0 (Aaj .u64 n))) (Aaj .u64 a)<Aaj .u64 b/\True)/\(InR .u64 (Ad7 n a b)/\InR .u64 (Lm (Ad6 n a) (AeO n a) (Aaj .u64 b))->Cn (bLt 4611686018427387904 (Ad7 n a b)) ((Ad4 n a b)) (True/\Cn (bNot (bLt n 0)) (Aaj .i64 (Ad7 n a b)=E5 n a b/\Aaj .i64 (Lm (Ad6 n a) (AeO n a) (Aaj .u64 b))=FQ n a b/\true=Bz (AB n a b)) (Cn (bEq (Lm (Ad6 n a) (AeO n a) (Aaj .u64 b)) 0) (Aaj .i64 (iSub 0 (Aaj .i64 (Ad7 n a b)))=E5 n a b/\0=FQ n a b/\true=Bz (AB n a b)) (Cn (bEq (Ad7 n a b) 4611686018427387904) ((Ad4 n a b)) (Aaj .i64 (iSub (Aaj .i64 (iSub 0 (Aaj .i64 (Ad7 n a b)))) 1)=E5 n a b/\Aaj .i64 (iSub b (Aaj .i64 (Lm (Ad6 n a) (AeO n a) (Aaj .u64 b))))=FQ n a b/\true=Bz (AB n a b))))))))) (True/\(InR .u64 (BC (Aaj .u64 n) (Aaj .u64 a))/\InR .u64 (Bo (Aaj .u64 n) (Aaj .u64 a))->Cn (bLe (Aaj .u64 b) (BC (Aaj .u64 n) (Aaj .u64 a))) ((Ad4 n a b)) ((BC (Aaj .u64 n) (Aaj .u64 a)<Aaj .u64 b/\True)/\(InR .u64 (Ad5 n a b)/\InR .u64 (AfX n a b)->Cn (bLt 4611686018427387904 (Ad5 n a b)) ((Ad4 n a b)) (True/\Cn (bNot (bLt n 0)) (Aaj .i64 (Ad5 n a b)=E5 n a b/\Aaj .i64 (AfX n a b)=FQ n a b/\true=Bz (AB n a b)) (Cn (bEq (AfX n a b) 0) (Aaj .i64 (iSub 0 (Aaj .i64 (Ad5 n a b)))=E5 n a b/\0=FQ n a b/\true=Bz (AB n a b)) (Cn (bEq (Ad5 n a b) 4611686018427387904) ((Ad4 n a b)) (Aaj .i64 (iSub (Aaj .i64 (iSub 0 (Aaj .i64 (Ad5 n a b)))) 1)=E5 n a b/\Aaj .i64 (iSub b (Aaj .i64 (AfX n a b)))=FQ n a b/\true=Bz (AB n a b))))))))):=by
 intro hw hp;delta Ad7 Ad6 AeO Ad5 Ad4 AfX;simp only[Cn_iff,Aas,true_and];simp only[Wfs,Wf,InR,and_true]at hw;have F:=Xk hp;have A:=UN (n:=n) (by omega);have wa:Aaj .u64 a=a:=Bv (by omega) (by omega);have wb:Aaj .u64 b=b:=Bv (by omega) (by omega);rw[wa,wb];have hm:=F.hi0;have k1:=F.q0;have k2:=F.r0;have k3:=F.r1;have k4:=F.hi;have k5:=F.pos;have k6:=F.neg0;have k7:=F.neg1;have v1:NP (BC (BA n) a) (Bo (BA n) a) b=BN n a b:=(Qs _ _ _).1;have v2:Lm (BC (BA n) a) (Bo (BA n) a) b=BA n*a % b:=(Qs _ _ _).2;have okI:(BN n a b<=4611686018427387904->Ce n a b=true/\En n a b=AB n a b/\Ff n a b=Ee n a b)/\(4611686018427387904<BN n a b->Ce n a b=false/\En n a b=0/\Ff n a b=0):=by
  constructor
  · intro h;have e:Ce n a b=true:=by unfold Ce; simpa using h
    exact⟨e,by unfold En; rw[e]; rfl,by unfold Ff; rw[e]; rfl⟩
  · intro h;have e:Ce n a b=false:=by unfold Ce; simp; omega
    exact⟨e,by unfold En; rw[e]; rfl,by unfold Ff; rw[e]; rfl⟩
 have erI:(-4611686018427387904<=AB n a b/\AB n a b<=4611686018427387904->Bz (AB n a b)=true/\E5 n a b=AB n a b/\FQ n a b=Ee n a b)/\(¬(-4611686018427387904<=AB n a b/\AB n a b<=4611686018427387904)->Bz (AB n a b)=false/\E5 n a b=0/\FQ n a b=0):=by
  constructor
  · intro h;have e:Bz (AB n a b)=true:=by unfold Bz; simpa using h
    exact⟨e,by unfold E5; rw[e]; rfl,by unfold FQ; rw[e]; rfl⟩
  · intro h;have e:Bz (AB n a b)=false:=by unfold Bz; simp; omega
    exact⟨e,by unfold E5; rw[e]; rfl,by unfold FQ; rw[e]; rfl⟩
 have wq:BN n a b<=4611686018427387904->Aaj .i64 (BN n a b)=BN n a b:=λh=>GY (by omega) (by omega);have w0:BN n a b<=4611686018427387904->Aaj .i64 (iSub 0 (BN n a b))= -(BN n a b):=λh=>by rw[GY (by simp only[iSub]; omega) (by simp only[iSub]; omega)]; simp only[iSub]; omega
 have w1:BN n a b<=4611686018427387904->Aaj .i64 (iSub (-(BN n a b)) 1)= -(BN n a b)-1:=λh=>GY (by simp only[iSub]; omega) (by simp only[iSub]; omega);have wR:Aaj .i64 (BA n*a % b)=BA n*a % b:=GY (by omega) (by omega);have wbR:Aaj .i64 (iSub b (BA n*a % b))=b-BA n*a % b:=GY (by simp only[iSub]; omega) (by simp only[iSub]; omega);refine⟨λh=> ?_,λh=> ?_⟩
 · simp only[bLt,decide_eq_true_eq]at h;have hW:=A.1 h;rw[hW,v1,v2];clear v1 v2 hW;generalize BC (BA n) a=mh at*;generalize Bo (BA n) a=ml at*;generalize BA n*a % b=R at*;generalize BN n a b=Q at*;generalize AB n a b=fl at*;generalize Ee n a b=re at*;generalize Ce n a b=okq at*;generalize Bz fl=inr at*;generalize En n a b=dF at*;generalize Ff n a b=dR at*;generalize E5 n a b=eF at*;generalize FQ n a b=eR at*;simp only[bLt,bLe,bEq,bNe,bNot,Bool.not_eq_true',Bool.not_eq_false',decide_eq_true_eq,decide_eq_false_iff_not,true_and,and_true]
   repeat' (first|apply And.intro|intro _)
   all_goals (first
    |trivial
    |omega
    |exact(okI.1 (by omega)).1.symm
    |exact(okI.2 (by omega)).1.symm
    |exact(erI.1 (by omega)).1.symm
    |exact(erI.2 (by omega)).1.symm
    |(have hq:Q<=4611686018427387904:=(by omega); (try rw[wq hq]); (try rw[w0 hq]); (try rw[w1 hq]); (try rw[wR]); (try rw[wbR]); first|(have:=okI.1 hq; omega)|(have:=erI.1 (by omega); omega)|(have:=erI.2 (by omega); omega))
    |(have:=okI.2 (by omega); omega)
    |(have:=erI.2 (by omega); omega))
 · simp only[bLt,decide_eq_false_iff_not]at h;have hW:=A.2 (by omega);rw[hW,v1,v2];clear v1 v2 hW;generalize BC (BA n) a=mh at*;generalize Bo (BA n) a=ml at*;generalize BA n*a % b=R at*;generalize BN n a b=Q at*;generalize AB n a b=fl at*;generalize Ee n a b=re at*;generalize Ce n a b=okq at*;generalize Bz fl=inr at*;generalize En n a b=dF at*;generalize Ff n a b=dR at*;generalize E5 n a b=eF at*;generalize FQ n a b=eR at*;simp only[bLt,bLe,bEq,bNe,bNot,Bool.not_eq_true',Bool.not_eq_false',decide_eq_true_eq,decide_eq_false_iff_not,true_and,and_true]
   repeat' (first|apply And.intro|intro _)
   all_goals (first
    |trivial
    |omega
    |exact(okI.1 (by omega)).1.symm
    |exact(okI.2 (by omega)).1.symm
    |exact(erI.1 (by omega)).1.symm
    |exact(erI.2 (by omega)).1.symm
    |(have hq:Q<=4611686018427387904:=(by omega); (try rw[wq hq]); (try rw[w0 hq]); (try rw[w1 hq]); (try rw[wR]); (try rw[wbR]); first|(have:=okI.1 hq; omega)|(have:=erI.1 (by omega); omega)|(have:=erI.2 (by omega); omega))
    |(have:=okI.2 (by omega); omega)
    |(have:=erI.2 (by omega); omega))
def r161:Cr PR:=Kw (λ_=>true) [r202,r211] 161 6 {ps:=[(false,hI),(true,hII)],rs:=[(false,hI),(false,hI),(false,[.bool])],pre:=λa=>1<=(I a 1 0)/\(I a 1 0)<=68719476736/\1<=(I a 1 1)/\(I a 1 1)<=68719476736/\-1125899906842624<=(I a 0 0)/\(I a 0 0)<=1125899906842624,out:=λa=>[[.i (E5 (I a 0 0) (I a 1 0) (I a 1 1))],[.i (FQ (I a 0 0) (I a 1 0) (I a 1 1))],[.b (Bz (AB (I a 0 0) (I a 1 0) (I a 1 1)))]]} U λa=>Y (v161 (I a 0 0) (I a 1 0) (I a 1 1))
end Go.Sx
namespace Go.Sx
theorem v205 (n:Int) (a:Int) (b:Int):InR .i64 n/\InR .i64 a/\InR .i64 b->True/\True/\Cn (bNot (Ai a b)) (1=DL n a b) (Cn (bLt n (-1125899906842624)) (2=DL n a b) (Cn (bLt 1125899906842624 n) (2=DL n a b) (0=DL n a b))):=by
 intro hw;simp only[Cn_iff,Aas,true_and];unfold DL;simp only[decide_eq_decide,beq_eq_false_iff_ne,ne_eq,iAdd,iSub,iMul,iQuo,iRem,iMin,iMax,iLen,geB,pLe,pNe,bNot,bLe,bLt,bEq,bNe,AgB,Ajq,bIf,bAnd,InR,Bool.not_true,Bool.not_false,decide_eq_true_eq,decide_eq_false_iff_not,Bool.not_eq_true',Bool.not_eq_false',beq_iff_eq,true_implies,implies_true,true_and,and_true,Bool.false_eq_true,Bool.true_eq_false,false_implies,reduceCtorEq,Bool.and_eq_true,Bool.and_eq_false_iff]
 cases Ai a b<;>simp
 repeat' (first|apply And.intro|intro _)
 all_goals (first|omega|(rw[if_pos (by omega)])|(rw[if_neg (by omega)]))
def r205:Cr PR:=K0 [r133] 205 6 {ps:=[(false,hI),(true,hII)],rs:=[(false,hI)],pre:=λ_=>True,out:=λa=>[[.i (DL (I a 0 0) (I a 1 0) (I a 1 1))]]} U λa=>Y (v205 (I a 0 0) (I a 1 0) (I a 1 1))
end Go.Sx
namespace Go
open Go.Sx
theorem YI {n a b:Int} (h:DL n a b=0):1<=a/\a<=68719476736/\1<=b/\b<=68719476736/\-1125899906842624<=n/\n<=1125899906842624:=by
 unfold DL at h;split at h
 · cases h
 · rename_i h1;split at h
   · cases h
   · have:=DU (a:=a) (b:=b) (by simpa using h1);omega
theorem Aaa (n a b:Int):(BN n a b<=4611686018427387904->Ce n a b=true/\En n a b=AB n a b/\Ff n a b=Ee n a b)/\(4611686018427387904<BN n a b->Ce n a b=false/\En n a b=0/\Ff n a b=0):=by
 constructor
 · intro h;have e:Ce n a b=true:=by unfold Ce; simpa using h
   exact⟨e,by unfold En; rw[e]; rfl,by unfold Ff; rw[e]; rfl⟩
 · intro h;have e:Ce n a b=false:=by unfold Ce; simp; omega
   exact⟨e,by unfold En; rw[e]; rfl,by unfold Ff; rw[e]; rfl⟩
theorem ZJ (n a b:Int):(Ce n a b=true->BN n a b<=4611686018427387904)/\(Ce n a b=false->4611686018427387904<BN n a b):=by
 unfold Ce; simp
theorem Vg {n a b:Int} (h:DL n a b=0):(-4611686018427387904<=AB n a b/\AB n a b<=4611686018427387904->CW n a b=0/\Dp n a b=AB n a b/\Jb n a b=Ee n a b/\Bz (AB n a b)=true)/\
 (¬(-4611686018427387904<=AB n a b/\AB n a b<=4611686018427387904)->CW n a b=2/\Dp n a b=0/\Jb n a b=0/\Bz (AB n a b)=false):=by
 constructor
 · intro hi;have e:Bz (AB n a b)=true:=by unfold Bz; simpa using hi
   have f:CW n a b=0:=by unfold CW; rw[if_neg (by omega),e]; rfl
   exact⟨f,by unfold Dp; rw[if_pos f],by unfold Jb; rw[if_pos f],e⟩
 · intro hi;have e:Bz (AB n a b)=false:=by unfold Bz; simp; omega
   have f:CW n a b=2:=by unfold CW; rw[if_neg (by omega),e]; rfl
   exact⟨f,by unfold Dp; rw[if_neg (by omega)],by unfold Jb; rw[if_neg (by omega)],e⟩
theorem OL {n a b:Int} (h:DL n a b=0):(-4611686018427387904<=H8 n a b/\H8 n a b<=4611686018427387904->CP n a b=0/\BQ n a b=H8 n a b)/\
 (¬(-4611686018427387904<=H8 n a b/\H8 n a b<=4611686018427387904)->CP n a b=2/\BQ n a b=0):=by
 constructor
 · intro hi;have e:Bz (H8 n a b)=true:=by unfold Bz; simpa using hi
   have f:CP n a b=0:=by unfold CP; rw[if_neg (by omega),e]; rfl
   exact⟨f,by unfold BQ; rw[if_pos f]⟩
 · intro hi;have e:Bz (H8 n a b)=false:=by unfold Bz; simp; omega
   have f:CP n a b=2:=by unfold CP; rw[if_neg (by omega),e]; rfl
   exact⟨f,by unfold BQ; rw[if_neg (by omega)]⟩
theorem Si {n a b:Int} (h:DL n a b≠0):CW n a b=DL n a b/\Dp n a b=0/\Jb n a b=0/\CP n a b=DL n a b/\BQ n a b=0:=by
 have e:CW n a b=DL n a b:=by unfold CW; rw[if_pos h]
 have f:CP n a b=DL n a b:=by unfold CP; rw[if_pos h]
 exact⟨e,by unfold Dp; rw[if_neg (by omega)],by unfold Jb; rw[if_neg (by omega)],f,by unfold BQ; rw[if_neg (by omega)]⟩
theorem XG {n a b:Int} (hb:1<=b):(Ee n a b=0->H8 n a b=AB n a b)/\(Ee n a b≠0->H8 n a b=AB n a b+1)/\0<=Ee n a b/\Ee n a b<b:=by
 have nd:=Uf (m:=n*a) (b:=b) hb;unfold H8 AB Ee;rw[Int.neg_mul];exact⟨λh=>by rw[(nd.1 h).1]; omega,λh=>by rw[(nd.2 h).1]; omega,Int.emod_nonneg _ (by omega),Int.emod_lt_of_pos _ (by omega)⟩
theorem Uu {n a b:Int}:AB (-n) a b= -(H8 n a b):=by unfold AB H8; omega
end Go
namespace Go.Sx
def Aik (n:Int) (a:Int) (b:Int):Prop:=True/\Cn (bNot (Ce n a b)) (0=BQ n a b/\2=CP n a b) (Cn (bLt (En n a b) (-4611686018427387904)) (0=BQ n a b/\2=CP n a b) (Cn (bLt 4611686018427387904 (En n a b)) (0=BQ n a b/\2=CP n a b) (En n a b=BQ n a b/\0=CP n a b)))
theorem v142 (n:Int) (a:Int) (b:Int):InR .i64 n/\InR .i64 a/\InR .i64 b->True/\(InR .i64 (DL n a b)->Cn (bNe (DL n a b) 0) (0=BQ n a b/\DL n a b=CP n a b) ((1<=a/\a<=68719476736/\1<=b/\b<=68719476736/\-1125899906842624<=n/\n<=1125899906842624)/\(InR .i64 (En n a b)/\InR .i64 (Ff n a b)->Cn (Ce n a b) (Cn (bLt 0 (Ff n a b)) (InR .i64 (iAdd (En n a b) 1)/\True/\Cn (bNot (Ce n a b)) (0=BQ n a b/\2=CP n a b) (Cn (bLt (iAdd (En n a b) 1) (-4611686018427387904)) (0=BQ n a b/\2=CP n a b) (Cn (bLt 4611686018427387904 (iAdd (En n a b) 1)) (0=BQ n a b/\2=CP n a b) (iAdd (En n a b) 1=BQ n a b/\0=CP n a b)))) ((Aik n a b))) ((Aik n a b))))):=by
 intro hw;delta Aik;simp only[Cn_iff,Aas,true_and];simp only[Wfs,Wf,InR,and_true]at hw;by_cases hc:DL n a b=0
 · have ck:=YI hc;have F:=Xk ck;have o1:=Aaa n a b;have o2:=ZJ n a b;have f0:=Vg hc;have f1:=λh=>(⟨(f0.1 h).1,(f0.1 h).2.1,(f0.1 h).2.2.1⟩:CW n a b=0/\Dp n a b=AB n a b/\Jb n a b=Ee n a b)
   have f2:=λh=>(⟨(f0.2 h).1,(f0.2 h).2.1,(f0.2 h).2.2.1⟩:CW n a b=2/\Dp n a b=0/\Jb n a b=0)
   have c1:=(OL hc).1;have c2:=(OL hc).2;clear f0;have cf:=XG (n:=n) (a:=a) (b:=b) (by omega);have k1:=F.q0;have k2:=F.r0;have k3:=F.r1;have k5:=F.pos;have k6:=F.neg0;have k7:=F.neg1
   cases hq:Ce n a b<;>simp only[hq,Bool.false_eq_true,Bool.true_eq_false,reduceCtorEq,false_implies,true_implies,and_true,true_and,false_and,and_false,implies_true]at o1 o2 ⊢
   all_goals (clear F; simp only[hc,bNe,bNot,bLt,iAdd,iSub,InR,decide_true,decide_eq_true_eq,decide_eq_false_iff_not,Bool.not_true,Bool.not_false,Bool.not_eq_true',Bool.not_eq_false',Bool.false_eq_true,Bool.true_eq_false,reduceCtorEq,not_true_eq_false,false_implies,true_implies,implies_true,and_true,true_and])
   all_goals
    generalize BA n*a % b=R at*
    generalize BN n a b=Q at*
    generalize CW n a b=fE at*
    generalize Dp n a b=fV at*
    generalize Jb n a b=rV at*
    generalize CP n a b=cE at*
    generalize BQ n a b=cV at*
    generalize H8 n a b=ce at*
    generalize En n a b=dF at*
    generalize Ff n a b=dR at*
    generalize AB n a b=fl at*
    generalize Ee n a b=re at*
    generalize DL n a b=ck at*
    repeat' (first|apply And.intro|intro _)
    all_goals (first|trivial|assumption|omega)
 · have bd:=Si hc;simp only[bNe,bNot,hc,bd,decide_false,decide_true,Bool.not_false,Bool.not_true,Bool.false_eq_true,Bool.true_eq_false,reduceCtorEq,false_implies,true_implies,implies_true,and_true,true_and]
def r142:Cr PR:=K0 [r205,r206] 142 6 {ps:=[(false,hI),(true,hII)],rs:=[(false,hI),(false,hI)],pre:=λ_=>True,out:=λa=>[[.i (BQ (I a 0 0) (I a 1 0) (I a 1 1))],[.i (CP (I a 0 0) (I a 1 0) (I a 1 1))]]} U λa=>Y (v142 (I a 0 0) (I a 1 0) (I a 1 1))
end Go.Sx

set_option linter.unusedVariables false
set_option linter.unusedSimpArgs false
set_option maxRecDepth 100000
set_option maxHeartbeats 4000000
namespace Go
open Go.Sx
def EH (a b c d:Int):Int:=a/Ag a d*(c/Ag c b)
def EJ (a b c d:Int):Int:=b/Ag c b*(d/Ag a d)
def FV (a b c d:Int):Int:=if Ai a b=false∨Ai c d=false then 1 else if 68719476736<EH a b c d∨68719476736<EJ a b c d then 2 else 0
def Ef (a b c d v:Int):Int:=if FV a b c d=0 then v else 0
def L6 (a b:Int):Int:=bif Ai a b then 0 else 1
def DW (a b v:Int):Int:=bif Ai a b then v else 0
def Fv (a b c d:Int):Int:=if Ai a b=false∨Ai c d=false then 0 else if a*d<c*b then-1 else if a*d=c*b then 0 else 1
end Go
namespace Go
open Go.Sx
theorem YH (n a b:Int):(-4611686018427387904<=AB n a b/\AB n a b<=4611686018427387904->Bz (AB n a b)=true/\E5 n a b=AB n a b/\FQ n a b=Ee n a b)/\(¬(-4611686018427387904<=AB n a b/\AB n a b<=4611686018427387904)->Bz (AB n a b)=false/\E5 n a b=0/\FQ n a b=0):=by
 constructor
 · intro h;have e:Bz (AB n a b)=true:=by unfold Bz; simpa using h
   exact⟨e,by unfold E5; rw[e]; rfl,by unfold FQ; rw[e]; rfl⟩
 · intro h;have e:Bz (AB n a b)=false:=by unfold Bz; simp; omega
   exact⟨e,by unfold E5; rw[e]; rfl,by unfold FQ; rw[e]; rfl⟩
theorem TJ (n a b:Int):(Ai a b=false->DL n a b=1)/\(Ai a b=true->(n< -1125899906842624∨1125899906842624<n->DL n a b=2)/\(-1125899906842624<=n/\n<=1125899906842624->DL n a b=0)):=by
 unfold DL;refine⟨λh=>if_pos h,λh=>⟨λh1=> ?_,λh1=> ?_⟩⟩
 · rw[if_neg (by simp[h]),if_pos h1]
 · rw[if_neg (by simp[h]),if_neg (by omega)]
theorem Zn {a b:Int} (h1:1<=a) (h2:a<=68719476736) (h3:1<=b) (h4:b<=68719476736):BX a b=0:=by
 have h:=Na (a:=a) (b:=b) h1 h3;unfold BX;rw[if_neg (by omega),if_neg (by omega)]
theorem Ux {a b c d:Int} (h:Ai a b=true) (h':Ai c d=true):
 1<=a/Ag a d/\a/Ag a d<=68719476736/\1<=c/Ag c b/\c/Ag c b<=68719476736/\1<=b/Ag c b/\b/Ag c b<=68719476736/\1<=d/Ag a d/\d/Ag a d<=68719476736:=by
 have r:=DU h;have s:=DU h';have x:=Na (a:=a) (b:=d) (by omega) (by omega);have y:=Na (a:=c) (b:=b) (by omega) (by omega);omega
end Go
namespace Go.Sx
theorem v126 (n:Int) (a:Int) (b:Int):InR .i64 n/\InR .i64 a/\InR .i64 b->True/\True/\Cn (bNot (Ai a b)) (0=Dp n a b/\1=CW n a b) (Cn (bLt n (-1125899906842624)) (0=Dp n a b/\2=CW n a b) (Cn (bLt 1125899906842624 n) (0=Dp n a b/\2=CW n a b) ((1<=a/\a<=68719476736/\1<=b/\b<=68719476736/\-1125899906842624<=n/\n<=1125899906842624)/\(InR .i64 (E5 n a b)/\InR .i64 (FQ n a b)->True/\Cn (bNot (Bz (AB n a b))) (0=Dp n a b/\2=CW n a b) (E5 n a b=Dp n a b/\0=CW n a b))))):=by
 intro hw;simp only[Cn_iff,Aas,true_and];have hp:True:=trivial;simp only[Wfs,Wf,InR,and_true]at hw;have cc:=TJ n a b
 cases hv:Ai a b
 · have e:=cc.1 hv;have bd:=Si (n:=n) (a:=a) (b:=b) (by omega);have r1:CW n a b=1:=by rw[bd.1]; omega
   have r2:Dp n a b=0:=by exact bd.2.1
   simp only[bNot,bNe,r1,r2,Bool.not_false,Bool.not_true,Bool.false_eq_true,Bool.true_eq_false,reduceCtorEq,false_implies,true_implies,implies_true,and_true,true_and]
 · by_cases hr: -1125899906842624<=n/\n<=1125899906842624
   · have hc:=(cc.2 hv).2 hr;have rv:=DU hv;have f0:=Vg hc;have f1:=λh=>(⟨(f0.1 h).1,(f0.1 h).2.1,(f0.1 h).2.2.1⟩:CW n a b=0/\Dp n a b=AB n a b/\Jb n a b=Ee n a b)
     have f2:=λh=>(⟨(f0.2 h).1,(f0.2 h).2.1,(f0.2 h).2.2.1⟩:CW n a b=2/\Dp n a b=0/\Jb n a b=0)
     have c1:=(OL hc).1;have c2:=(OL hc).2;have en:=Uu (n:=n) (a:=a) (b:=b);have er:=YH n a b;simp only[iSub,Int.zero_sub,bLt,bNot,bNe,InR,decide_true,decide_eq_true_eq,decide_eq_false_iff_not,Bool.not_true,Bool.not_false,Bool.false_eq_true,Bool.true_eq_false,reduceCtorEq,not_true_eq_false,false_implies,true_implies,implies_true,and_true,true_and];clear f0 cc hw hp;by_cases hin: -4611686018427387904<=AB n a b/\AB n a b<=4611686018427387904
     · have er:=er.1 hin;simp only[er,decide_true,Bool.not_true,Bool.false_eq_true,Bool.true_eq_false,reduceCtorEq,false_implies,true_implies,implies_true,and_true,true_and]
       repeat' (first|apply And.intro|intro _)
       all_goals (first|trivial|assumption|omega)
     · have er:=er.2 hin;simp only[er,Bool.not_false,Bool.false_eq_true,Bool.true_eq_false,reduceCtorEq,false_implies,true_implies,implies_true,and_true,true_and]
       repeat' (first|apply And.intro|intro _)
       all_goals (first|trivial|assumption|omega)
   · have e:=(cc.2 hv).1 (by omega);have bd:=Si (n:=n) (a:=a) (b:=b) (by omega);have r1:CW n a b=2:=by rw[bd.1]; omega
     have r2:Dp n a b=0:=by exact bd.2.1
     simp only[bNot,bNe,bLt,r1,r2,decide_eq_true_eq,decide_eq_false_iff_not,Bool.not_false,Bool.not_true,Bool.false_eq_true,Bool.true_eq_false,reduceCtorEq,false_implies,true_implies,implies_true,and_true,true_and]
     repeat' (first|apply And.intro|intro _)
     all_goals (first|trivial|omega)
def r126:Cr PR:=K0 [r143,r161] 126 6 {ps:=[(false,hI),(true,hII)],rs:=[(false,hI),(false,hI)],pre:=λ_=>True,out:=λa=>[[.i (Dp (I a 0 0) (I a 1 0) (I a 1 1))],[.i (CW (I a 0 0) (I a 1 0) (I a 1 1))]]} U λa=>Y (v126 (I a 0 0) (I a 1 0) (I a 1 1))
end Go.Sx
namespace Go.Sx
theorem v96 (n:Int) (a:Int) (b:Int):InR .i64 n/\InR .i64 a/\InR .i64 b->True/\True/\Cn (bNot (Ai a b)) (0=BQ n a b/\1=CP n a b) (Cn (bLt n (-1125899906842624)) (0=BQ n a b/\2=CP n a b) (Cn (bLt 1125899906842624 n) (0=BQ n a b/\2=CP n a b) (InR .i64 (iSub 0 n)/\(1<=a/\a<=68719476736/\1<=b/\b<=68719476736/\-1125899906842624<=iSub 0 n/\iSub 0 n<=1125899906842624)/\(InR .i64 (E5 (iSub 0 n) a b)/\InR .i64 (FQ (iSub 0 n) a b)->True/\Cn (bNot (Bz (AB (iSub 0 n) a b))) (0=BQ n a b/\2=CP n a b) (InR .i64 (iSub 0 (E5 (iSub 0 n) a b))/\iSub 0 (E5 (iSub 0 n) a b)=BQ n a b/\0=CP n a b))))):=by
 intro hw;simp only[Cn_iff,Aas,true_and];have hp:True:=trivial;simp only[Wfs,Wf,InR,and_true]at hw;have cc:=TJ n a b
 cases hv:Ai a b
 · have e:=cc.1 hv;have bd:=Si (n:=n) (a:=a) (b:=b) (by omega);have r1:CP n a b=1:=by rw[bd.2.2.2.1]; omega
   have r2:BQ n a b=0:=by exact bd.2.2.2.2
   simp only[bNot,bNe,r1,r2,Bool.not_false,Bool.not_true,Bool.false_eq_true,Bool.true_eq_false,reduceCtorEq,false_implies,true_implies,implies_true,and_true,true_and]
 · by_cases hr: -1125899906842624<=n/\n<=1125899906842624
   · have hc:=(cc.2 hv).2 hr;have rv:=DU hv;have f0:=Vg hc;have f1:=λh=>(⟨(f0.1 h).1,(f0.1 h).2.1,(f0.1 h).2.2.1⟩:CW n a b=0/\Dp n a b=AB n a b/\Jb n a b=Ee n a b)
     have f2:=λh=>(⟨(f0.2 h).1,(f0.2 h).2.1,(f0.2 h).2.2.1⟩:CW n a b=2/\Dp n a b=0/\Jb n a b=0)
     have c1:=(OL hc).1;have c2:=(OL hc).2;have en:=Uu (n:=n) (a:=a) (b:=b);have er:=YH (-n) a b;simp only[iSub,Int.zero_sub,bLt,bNot,bNe,InR,decide_true,decide_eq_true_eq,decide_eq_false_iff_not,Bool.not_true,Bool.not_false,Bool.false_eq_true,Bool.true_eq_false,reduceCtorEq,not_true_eq_false,false_implies,true_implies,implies_true,and_true,true_and];clear f0 cc hw hp;by_cases hin: -4611686018427387904<=AB (-n) a b/\AB (-n) a b<=4611686018427387904
     · have er:=er.1 hin;simp only[er,decide_true,Bool.not_true,Bool.false_eq_true,Bool.true_eq_false,reduceCtorEq,false_implies,true_implies,implies_true,and_true,true_and]
       repeat' (first|apply And.intro|intro _)
       all_goals (first|trivial|assumption|omega)
     · have er:=er.2 hin;simp only[er,Bool.not_false,Bool.false_eq_true,Bool.true_eq_false,reduceCtorEq,false_implies,true_implies,implies_true,and_true,true_and]
       repeat' (first|apply And.intro|intro _)
       all_goals (first|trivial|assumption|omega)
   · have e:=(cc.2 hv).1 (by omega);have bd:=Si (n:=n) (a:=a) (b:=b) (by omega);have r1:CP n a b=2:=by rw[bd.2.2.2.1]; omega
     have r2:BQ n a b=0:=by exact bd.2.2.2.2
     simp only[bNot,bNe,bLt,r1,r2,decide_eq_true_eq,decide_eq_false_iff_not,Bool.not_false,Bool.not_true,Bool.false_eq_true,Bool.true_eq_false,reduceCtorEq,false_implies,true_implies,implies_true,and_true,true_and]
     repeat' (first|apply And.intro|intro _)
     all_goals (first|trivial|omega)
def r96:Cr PR:=K0 [r143,r161] 96 6 {ps:=[(false,hI),(true,hII)],rs:=[(false,hI),(false,hI)],pre:=λ_=>True,out:=λa=>[[.i (BQ (I a 0 0) (I a 1 0) (I a 1 1))],[.i (CP (I a 0 0) (I a 1 0) (I a 1 1))]]} U λa=>Y (v96 (I a 0 0) (I a 1 0) (I a 1 1))
end Go.Sx
namespace Go.Sx
theorem v141 (p:Int) (q:Int):InR .i64 p/\InR .i64 q->Cn (bLt p 1) (0=Au p q p/\0=Au p q q/\1=BX p q) (Cn (bLt q 1) (0=Au p q p/\0=Au p q q/\1=BX p q) ((0<p/\0<=q)/\(InR .i64 (Ag p q)->(pNe (Ag p q) 0/\InR .i64 (iQuo p (Ag p q)))/\(pNe (Ag p q) 0/\InR .i64 (iQuo q (Ag p q)))/\Cn (bLt 68719476736 (iQuo p (Ag p q))) (0=Au p q p/\0=Au p q q/\2=BX p q) (Cn (bLt 68719476736 (iQuo q (Ag p q))) (0=Au p q p/\0=Au p q q/\2=BX p q) (iQuo p (Ag p q)=Au p q p/\iQuo q (Ag p q)=Au p q q/\0=BX p q))))):=by
 intro hw;simp only[Cn_iff,Aas,true_and];simp only[Wfs,Wf,InR,and_true]at hw;by_cases h:p<1∨q<1
 · have e:BX p q=1:=by unfold BX; rw[if_pos h]
   have f:∀v,Au p q v=0:=λv=>by unfold Au; rw[if_neg (by omega)]
   simp only[e,f,bLt,bLe,decide_eq_true_eq,decide_eq_false_iff_not]
   repeat' (first|apply And.intro|intro _)
   all_goals (first|trivial|omega)
 · have g:=Na (a:=p) (b:=q) (by omega) (by omega);have g1:=JP (a:=p) (b:=q) (by omega);have t1:iQuo p (Ag p q)=p/Ag p q:=Int.tdiv_eq_ediv_of_nonneg (by omega);have t2:iQuo q (Ag p q)=q/Ag p q:=Int.tdiv_eq_ediv_of_nonneg (by omega);have e:BX p q=if 68719476736<p/Ag p q∨68719476736<q/Ag p q then 2 else 0:=by unfold BX; rw[if_neg h]
   have f:∀v,Au p q v=if BX p q=0 then v/Ag p q else 0:=λv=>rfl;simp only[t1,t2,f,e];generalize p/Ag p q=P at*;generalize q/Ag p q=Q at*;simp only[bLt,bLe,pNe,InR,decide_eq_true_eq,decide_eq_false_iff_not]
   repeat' (first|apply And.intro|intro _)
   all_goals (first|trivial|omega|(split<;>first|omega|(split<;>omega)))
def r141:Cr PR:=K0 [r200] 141 6 {ps:=[(false,hI),(false,hI)],rs:=[(true,hII),(false,hI)],pre:=λ_=>True,out:=λa=>[[.i (Au (I a 0 0) (I a 1 0) (I a 0 0)),.i (Au (I a 0 0) (I a 1 0) (I a 1 0))],[.i (BX (I a 0 0) (I a 1 0))]]} U λa=>Y (v141 (I a 0 0) (I a 1 0))
end Go.Sx
namespace Go.Sx
theorem v100 (p:Int) (q:Int):InR .i64 p/\InR .i64 q->Cn (bLt p 1) (0=Au p q p/\0=Au p q q/\1=BX p q) (Cn (bLt q 1) (0=Au p q p/\0=Au p q q/\1=BX p q) ((0<p/\0<=q)/\(InR .i64 (Ag p q)->(pNe (Ag p q) 0/\InR .i64 (iQuo p (Ag p q)))/\(pNe (Ag p q) 0/\InR .i64 (iQuo q (Ag p q)))/\Cn (bLt 68719476736 (iQuo p (Ag p q))) (0=Au p q p/\0=Au p q q/\2=BX p q) (Cn (bLt 68719476736 (iQuo q (Ag p q))) (0=Au p q p/\0=Au p q q/\2=BX p q) (iQuo p (Ag p q)=Au p q p/\iQuo q (Ag p q)=Au p q q/\0=BX p q))))):=by
 intro hw;simp only[Cn_iff,Aas,true_and];simp only[Wfs,Wf,InR,and_true]at hw;by_cases h:p<1∨q<1
 · have e:BX p q=1:=by unfold BX; rw[if_pos h]
   have f:∀v,Au p q v=0:=λv=>by unfold Au; rw[if_neg (by omega)]
   simp only[e,f,bLt,bLe,decide_eq_true_eq,decide_eq_false_iff_not]
   repeat' (first|apply And.intro|intro _)
   all_goals (first|trivial|omega)
 · have g:=Na (a:=p) (b:=q) (by omega) (by omega);have g1:=JP (a:=p) (b:=q) (by omega);have t1:iQuo p (Ag p q)=p/Ag p q:=Int.tdiv_eq_ediv_of_nonneg (by omega);have t2:iQuo q (Ag p q)=q/Ag p q:=Int.tdiv_eq_ediv_of_nonneg (by omega);have e:BX p q=if 68719476736<p/Ag p q∨68719476736<q/Ag p q then 2 else 0:=by unfold BX; rw[if_neg h]
   have f:∀v,Au p q v=if BX p q=0 then v/Ag p q else 0:=λv=>rfl;simp only[t1,t2,f,e];generalize p/Ag p q=P at*;generalize q/Ag p q=Q at*;simp only[bLt,bLe,pNe,InR,decide_eq_true_eq,decide_eq_false_iff_not]
   repeat' (first|apply And.intro|intro _)
   all_goals (first|trivial|omega|(split<;>first|omega|(split<;>omega)))
def r100:Cr PR:=K0 [r159] 100 6 {ps:=[(false,hI),(false,hI)],rs:=[(true,hII),(false,hI)],pre:=λ_=>True,out:=λa=>[[.i (Au (I a 0 0) (I a 1 0) (I a 0 0)),.i (Au (I a 0 0) (I a 1 0) (I a 1 0))],[.i (BX (I a 0 0) (I a 1 0))]]} U λa=>Y (v100 (I a 0 0) (I a 1 0))
end Go.Sx
namespace Go.Sx
theorem v140 (a:Int) (b:Int):InR .i64 a/\InR .i64 b->True/\True/\Cn (bNot (Ai a b)) (0=DW a b b/\0=DW a b a/\1=L6 a b) (b=DW a b b/\a=DW a b a/\0=L6 a b):=by
 intro hw;simp only[Cn_iff,Aas,true_and];unfold DW L6
 cases Ai a b<;>simp[bNot]
def r140:Cr PR:=K0 [r133] 140 6 {ps:=[(true,hII)],rs:=[(true,hII),(false,hI)],pre:=λ_=>True,out:=λa=>[[.i (DW (I a 0 0) (I a 0 1) (I a 0 1)),.i (DW (I a 0 0) (I a 0 1) (I a 0 0))],[.i (L6 (I a 0 0) (I a 0 1))]]} U λa=>Y (v140 (I a 0 0) (I a 0 1))
end Go.Sx
namespace Go.Sx
theorem v99 (a:Int) (b:Int):InR .i64 a/\InR .i64 b->True/\True/\Cn (bNot (Ai a b)) (0=DW a b b/\0=DW a b a/\1=L6 a b) (b=DW a b b/\a=DW a b a/\0=L6 a b):=by
 intro hw;simp only[Cn_iff,Aas,true_and];unfold DW L6
 cases Ai a b<;>simp[bNot]
def r99:Cr PR:=K0 [r143] 99 6 {ps:=[(true,hII)],rs:=[(true,hII),(false,hI)],pre:=λ_=>True,out:=λa=>[[.i (DW (I a 0 0) (I a 0 1) (I a 0 1)),.i (DW (I a 0 0) (I a 0 1) (I a 0 0))],[.i (L6 (I a 0 0) (I a 0 1))]]} U λa=>Y (v99 (I a 0 0) (I a 0 1))
end Go.Sx

set_option linter.unusedVariables false
set_option linter.unusedSimpArgs false
set_option maxRecDepth 100000
set_option maxHeartbeats 4000000
namespace Go
open Go.Sx
def XI (p q:Int):Bool:=decide (p*q<=68719476736)
def XM (p q:Int):Int:=IntKind.i64.wrap (Bo p q)
end Go
namespace Go
open Go.Sx
theorem XE (p q:Int):p*q=BC p q*18446744073709551616+Bo p q/\0<=Bo p q/\Bo p q<18446744073709551616:=by unfold BC Bo; omega
theorem Vk {p q:Int} (h0:0<=p*q) (h:p*q<=68719476736):XM p q=p*q:=by
 have:=XE p q;have e:Bo p q=p*q:=by omega
 unfold XM; rw[e];exact InR.wrap (by simp only[InR]; omega)
end Go
namespace Go.Sx
theorem v90 (a:Int) (b:Int) (c:Int) (d:Int):InR .i64 a/\InR .i64 b/\InR .i64 c/\InR .i64 d->True/\True/\Cn (bNot (Ai a b)) (0=Ef a b c d (EH a b c d)/\0=Ef a b c d (EJ a b c d)/\1=FV a b c d) (True/\True/\Cn (bNot (Ai c d)) (0=Ef a b c d (EH a b c d)/\0=Ef a b c d (EJ a b c d)/\1=FV a b c d) ((0<a/\0<=d)/\(InR .i64 (Ag a d)->(0<c/\0<=b)/\(InR .i64 (Ag c b)->(pNe (Ag a d) 0/\InR .i64 (iQuo a (Ag a d)))/\(pNe (Ag c b) 0/\InR .i64 (iQuo c (Ag c b)))/\(pNe (Ag c b) 0/\InR .i64 (iQuo b (Ag c b)))/\(pNe (Ag a d) 0/\InR .i64 (iQuo d (Ag a d)))/\(pNe (iQuo c (Ag c b)) 0/\InR .i64 (iQuo 68719476736 (iQuo c (Ag c b))))/\Cn (bLt (iQuo 68719476736 (iQuo c (Ag c b))) (iQuo a (Ag a d))) (0=Ef a b c d (EH a b c d)/\0=Ef a b c d (EJ a b c d)/\2=FV a b c d) ((pNe (iQuo d (Ag a d)) 0/\InR .i64 (iQuo 68719476736 (iQuo d (Ag a d))))/\Cn (bLt (iQuo 68719476736 (iQuo d (Ag a d))) (iQuo b (Ag c b))) (0=Ef a b c d (EH a b c d)/\0=Ef a b c d (EJ a b c d)/\2=FV a b c d) (InR .i64 (iMul (iQuo a (Ag a d)) (iQuo c (Ag c b)))/\InR .i64 (iMul (iQuo b (Ag c b)) (iQuo d (Ag a d)))/\iMul (iQuo a (Ag a d)) (iQuo c (Ag c b))=Ef a b c d (EH a b c d)/\iMul (iQuo b (Ag c b)) (iQuo d (Ag a d))=Ef a b c d (EJ a b c d)/\0=FV a b c d)))))):=by
 intro hw;simp only[Cn_iff,Aas,true_and];simp only[Wfs,Wf,InR,and_true]at hw
 cases hv:Ai a b
 · have e:FV a b c d=1:=by unfold FV; rw[if_pos (.inl hv)]
   have f:∀v,Ef a b c d v=0:=λv=>by unfold Ef; rw[if_neg (by omega)]
   simp[bNot,e,f]
 · cases hw':Ai c d
   · have e:FV a b c d=1:=by unfold FV; rw[if_pos (.inr hw')]
     have f:∀v,Ef a b c d v=0:=λv=>by unfold Ef; rw[if_neg (by omega)]
     simp[bNot,e,f]
   · have r := DU hv;have s := DU hw';have g1 := JP (a := a) (b := d) (by omega);have g2 := JP (a := c) (b := b) (by omega);have k := Ux hv hw';have eX : EH a b c d = a / Ag a d * (c / Ag c b) := rfl;have eY : EJ a b c d = b / Ag c b * (d / Ag a d) := rfl;have t1 : iQuo a (Ag a d) = a / Ag a d := Int.tdiv_eq_ediv_of_nonneg (by omega);have t2 : iQuo c (Ag c b) = c / Ag c b := Int.tdiv_eq_ediv_of_nonneg (by omega);have t3 : iQuo b (Ag c b) = b / Ag c b := Int.tdiv_eq_ediv_of_nonneg (by omega);have t4 : iQuo d (Ag a d) = d / Ag a d := Int.tdiv_eq_ediv_of_nonneg (by omega);have mX := Aap (x := a / Ag a d) (X := 68719476736) (y := c / Ag c b) (Y := 68719476736) (by omega) (by omega) (by omega) (by omega);have mY := Aap (x := b / Ag c b) (X := 68719476736) (y := d / Ag a d) (Y := 68719476736) (by omega) (by omega) (by omega) (by omega);have vX := Vk mX.1;have vY := Vk mY.1;have oX : XI (a / Ag a d) (c / Ag c b) = decide (a / Ag a d * (c / Ag c b) <= 68719476736) := rfl;have oY : XI (b / Ag c b) (d / Ag a d) = decide (b / Ag c b * (d / Ag a d) <= 68719476736) := rfl;have d1 : iQuo 68719476736 (c / Ag c b) < a / Ag a d ↔ 68719476736 < a / Ag a d * (c / Ag c b) := by
      rw[show iQuo 68719476736 (c/Ag c b)=68719476736/(c/Ag c b)from Int.tdiv_eq_ediv_of_nonneg (by omega)];exact Int.ediv_lt_iff_lt_mul (by omega)
     have d2:iQuo 68719476736 (d/Ag a d)<b/Ag c b↔68719476736<b/Ag c b*(d/Ag a d):=by
      rw[show iQuo 68719476736 (d/Ag a d)=68719476736/(d/Ag a d)from Int.tdiv_eq_ediv_of_nonneg (by omega)];exact Int.ediv_lt_iff_lt_mul (by omega)
     have b1:InR .i64 (iQuo 68719476736 (c/Ag c b)):=by
      have q0:=Int.ediv_nonneg (a:=68719476736) (b:=c/Ag c b) (by omega) (by omega);have q1:=Int.ediv_le_self (a:=68719476736) (c/Ag c b) (by omega);rw[show iQuo 68719476736 (c/Ag c b)=68719476736/(c/Ag c b)from Int.tdiv_eq_ediv_of_nonneg (by omega)];simp only[InR]; omega
     have b2:InR .i64 (iQuo 68719476736 (d/Ag a d)):=by
      have q0:=Int.ediv_nonneg (a:=68719476736) (b:=d/Ag a d) (by omega) (by omega);have q1:=Int.ediv_le_self (a:=68719476736) (d/Ag a d) (by omega);rw[show iQuo 68719476736 (d/Ag a d)=68719476736/(d/Ag a d)from Int.tdiv_eq_ediv_of_nonneg (by omega)];simp only[InR]; omega
     have e:FV a b c d=if 68719476736<EH a b c d∨68719476736<EJ a b c d then 2 else 0:=by unfold FV; rw[if_neg (by simp[hv,hw'])]
     have f:∀v,Ef a b c d v=if FV a b c d=0 then v else 0:=λv=>rfl;simp only[t1,t2,t3,t4,f,e,eX,eY,oX,oY];simp only[bNot,iMul,Bool.not_true,Bool.not_false,Bool.not_eq_true',Bool.not_eq_false',bLt,decide_eq_true_eq,decide_eq_false_iff_not,Bool.false_eq_true,Bool.true_eq_false,reduceCtorEq,false_implies,true_implies,implies_true,true_and,and_true,d1,d2];generalize a/Ag a d=X at*;generalize c/Ag c b=Y at*;generalize b/Ag c b=U at*;generalize d/Ag a d=W at*;generalize X*Y=XY at*;generalize U*W=UW at*;generalize iQuo 68719476736 Y=i1 at*;generalize iQuo 68719476736 W=i2 at*;simp only[pNe,iMul,InR]at*
     repeat' (first|apply And.intro|intro _)
     all_goals (first|trivial|omega|(rw[vX (by omega),if_pos (by rw[if_neg (by omega)])])|(rw[vY (by omega),if_pos (by rw[if_neg (by omega)])])|(split<;>first|omega|(split<;>omega))|skip)
def r90:Cr PR:=K0 [r143,r159] 90 6 {ps:=[(true,hII),(true,hII)],rs:=[(true,hII),(false,hI)],pre:=λ_=>True,out:=λa=>[[.i (Ef (I a 0 0) (I a 0 1) (I a 1 0) (I a 1 1) (EH (I a 0 0) (I a 0 1) (I a 1 0) (I a 1 1))),.i (Ef (I a 0 0) (I a 0 1) (I a 1 0) (I a 1 1) (EJ (I a 0 0) (I a 0 1) (I a 1 0) (I a 1 1)))],[.i (FV (I a 0 0) (I a 0 1) (I a 1 0) (I a 1 1))]]} U λa=>Y (v90 (I a 0 0) (I a 0 1) (I a 1 0) (I a 1 1))
end Go.Sx
namespace Go.Sx
def Adr (a:Int) (d:Int):Int:=(BC (Aaj .u64 a) (Aaj .u64 d))
def Adq (b:Int) (c:Int):Int:=(BC (Aaj .u64 c) (Aaj .u64 b))
theorem v156 (a:Int) (b:Int) (c:Int) (d:Int):InR .i64 a/\InR .i64 b/\InR .i64 c/\InR .i64 d->True/\True/\Cn (bNot (Ai a b)) (0=Fv a b c d) (True/\True/\Cn (bNot (Ai c d)) (0=Fv a b c d) (True/\(InR .u64 (Adr a d)/\InR .u64 (Bo (Aaj .u64 a) (Aaj .u64 d))->True/\(InR .u64 (Adq b c)/\InR .u64 (Bo (Aaj .u64 c) (Aaj .u64 b))->Cn (bLt (Adr a d) (Adq b c)) (-1=Fv a b c d) (Cn (bEq (Adr a d) (Adq b c)) (Cn (bLt (Bo (Aaj .u64 a) (Aaj .u64 d)) (Bo (Aaj .u64 c) (Aaj .u64 b))) (-1=Fv a b c d) (Cn (bLt (Adq b c) (Adr a d)) (1=Fv a b c d) (Cn (bEq (Adr a d) (Adq b c)) (Cn (bLt (Bo (Aaj .u64 c) (Aaj .u64 b)) (Bo (Aaj .u64 a) (Aaj .u64 d))) (1=Fv a b c d) (0=Fv a b c d)) (0=Fv a b c d)))) (Cn (bLt (Adq b c) (Adr a d)) (1=Fv a b c d) (Cn (bEq (Adr a d) (Adq b c)) (Cn (bLt (Bo (Aaj .u64 c) (Aaj .u64 b)) (Bo (Aaj .u64 a) (Aaj .u64 d))) (1=Fv a b c d) (0=Fv a b c d)) (0=Fv a b c d)))))))):=by
 intro hw;delta Adr Adq;simp only[Cn_iff,Aas,true_and];simp only[Wfs,Wf,InR,and_true]at hw;have e:Fv a b c d=if Ai a b=false∨Ai c d=false then 0 else if a*d<c*b then-1 else if a*d=c*b then 0 else 1:=rfl
 cases hv:Ai a b
 · simp[bNot,e,hv]
 · cases hw':Ai c d
   · simp[bNot,e,hw']
   · have r:=DU hv;have s:=DU hw';have w1:Aaj .u64 a=a:=Bv (by omega) (by omega);have w2:Aaj .u64 b=b:=Bv (by omega) (by omega);have w3:Aaj .u64 c=c:=Bv (by omega) (by omega);have w4:Aaj .u64 d=d:=Bv (by omega) (by omega);have l1:=XE a d;have l2:=XE c b;rw[if_neg (by simp[hv,hw'])]at e;rw[w1,w2,w3,w4,e];generalize BC a d=h1 at*;generalize Bo a d=m1 at*;generalize BC c b=h2 at*;generalize Bo c b=m2 at*;generalize a*d=p at*;generalize c*b=q at*;simp only[bNot,bLt,bEq,Bool.not_true,Bool.not_false,Bool.not_eq_true',Bool.not_eq_false',decide_eq_true_eq,decide_eq_false_iff_not,Bool.false_eq_true,Bool.true_eq_false,reduceCtorEq,false_implies,true_implies,implies_true,true_and,and_true]
     repeat' (first|apply And.intro|intro _)
     all_goals (first|trivial|omega|(rw[if_pos (by omega)])|(rw[if_neg (by omega),if_pos (by omega)])|(rw[if_neg (by omega),if_neg (by omega)]))
def r156:Cr PR:=K0 [r143,r202] 156 6 {ps:=[(true,hII),(true,hII)],rs:=[(false,hI)],pre:=λ_=>True,out:=λa=>[[.i (Fv (I a 0 0) (I a 0 1) (I a 1 0) (I a 1 1))]]} U λa=>Y (v156 (I a 0 0) (I a 0 1) (I a 1 0) (I a 1 1))
end Go.Sx

