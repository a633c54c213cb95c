import Derived.Test.YthflbgeplmecoaaGreatSxUse
import Derived.Test.YthflbgeplmecoaaGreatProg
import Derived.Lib.Mul64
set_option linter.unusedVariables false
set_option linter.unusedSimpArgs false
set_option maxRecDepth 100000
set_option maxHeartbeats 4000000
namespace Go.Sx
open Go.RowKit
theorem followsMixed:Go.Proofs.Tryz.prog.follows .mixedOrders=true:=by kernel_rfl
end Go.Sx
noncomputable section
namespace Go.Sx
noncomputable section
noncomputable abbrev PR:Program:=Go.Proofs.Tryz.prog
def U:List (List C)→FuncId→Nat→LoopAnn:=fun _ _ _=> .unroll 200
def Kw (wr:FuncId→Bool) (u:List (Cr PR)) (f n:Nat) (ct:Ct) (A:List (List C)→FuncId→Nat→LoopAnn)
 (h:∀args,Holds (hyp (wfP.go (ofRess ct.ps args)) (ct.pre args→vcF PR (look (tbR u)) wr (A args) n f (ofRess ct.ps args) [] fun sv heap=>Gives ct.rs (ct.out args) sv heap)))
 (hbx:ct.bx=none:=by rfl) (hrs:ct.rs.isEmpty=false:=by rfl) (how:ct.ow=none:=by rfl) (hfr:ct.fr=none:=by rfl):Cr PR:=
 ⟨f,ct,contractK followsMixed (tbR_ok u) wr A n f ct h hbx hrs how hfr⟩
def K (u:List (Cr PR)) (f n:Nat) (ct:Ct) (A:List (List C)→FuncId→Nat→LoopAnn)
 (h:∀args,Holds (hyp (wfP.go (ofRess ct.ps args)) (ct.pre args→vcF PR (look (tbR u)) (fun _=>false) (A args) n f (ofRess ct.ps args) [] fun sv heap=>Gives ct.rs (ct.out args) sv heap)))
 (hbx:ct.bx=none:=by rfl) (hrs:ct.rs.isEmpty=false:=by rfl) (how:ct.ow=none:=by rfl) (hfr:ct.fr=none:=by rfl):Cr PR:=
 ⟨f,ct,contractK followsMixed (tbR_ok u) (fun _=>false) A n f ct h hbx hrs how hfr⟩
theorem hyp_pre:∀ {l:List Prop} {p k:Prop},hyp l k→hyp l (p→k)
 |[],_,_,h=>fun _=>h
 |_::_,_,_,h=>fun ha _=>h ha
def K0 (u:List (Cr PR)) (f n:Nat) (ct:Ct) (A:List (List C)→FuncId→Nat→LoopAnn)
 (h:∀args,Holds (hyp (wfP.go (ofRess ct.ps args)) (vcF PR (look (tbR u)) (fun _=>false) (A args) n f (ofRess ct.ps args) [] fun sv heap=>Gives ct.rs (ct.out args) sv heap)))
 (hbx:ct.bx=none:=by rfl) (hrs:ct.rs.isEmpty=false:=by rfl) (how:ct.ow=none:=by rfl) (hfr:ct.fr=none:=by rfl):Cr PR:=
 K u f n ct A (fun a=>⟨hyp_pre (h a).out⟩) hbx hrs how hfr
def KB (u:List (Cr PR)) (f n:Nat) (ct:Ct) {t:TypeId} {e:List Sh} (A:List (List C)→FuncId→Nat→LoopAnn)
 (h:∀args,Holds (hyp (wfP.go (ofRess ((true,e)::ct.ps) args)) (ct.pre args→vcF PR (look (tbR u)) (fun _=>false) (A args) n f (.ref 0 0::ofRess ct.ps args.tail) [.box (ofCs e (args.headD [])) t] fun sv heap=>GivesB t e ct.rs (ct.out args) sv heap)))
 (hbx:ct.bx=some (t,e):=by rfl) (hrs:ct.rs.isEmpty=false:=by rfl):Cr PR:=
 ⟨f,ct,contractKB followsMixed (tbR_ok u) (fun _=>false) A n f ct h hbx hrs⟩
def mark (n:Nat):Cr PR:=⟨n,{ps:=[],rs:=[],pre:=fun _=>False,out:=fun _=>[]},
 ⟨fun _ _ h=>False.elim h,fun _ _ _ _ _ _ _ _ _ h _=>False.elim h,fun t e h=>(by cases h),fun t e r _ h=>(by cases h),fun t e _ _ h=>(by cases h)⟩⟩
theorem D:(∀ {α:Type} {x:α},Sm x↔True)∧(∀ {b X Y},Cn b X Y↔(b=true→X)∧(b=false→Y))∧(∀a b,iAdd a b=a+b)∧(∀a b,iSub a b=a-b)∧(∀a b,iMul a b=a*b)∧(∀a b,iQuo a b=a.tdiv b)∧(∀a b,iRem a b=a.tmod b)
 ∧(∀a b,iMin a b=min a b)∧(∀a b,iMax a b=max a b)∧(∀ {α:Type} (l:List α),iLen l=l.length)∧(∀a b n,pIn a b n↔a≤n∧n<b)∧(∀a b,pNe a b↔a≠b)∧(∀a b,pLe a b↔a≤b)∧(∀a b,nLt a b↔a<b)∧(∀b n,pRoom b n↔n*(b:Int)≤140737488355328):=
 ⟨Sm_iff,Cn_iff,fun _ _=>rfl,fun _ _=>rfl,fun _ _=>rfl,fun _ _=>rfl,fun _ _=>rfl,fun _ _=>rfl,fun _ _=>rfl,fun _=>rfl,fun _ _ _=>Iff.rfl,fun _ _=>Iff.rfl,fun _ _=>Iff.rfl,fun _ _=>Iff.rfl,fun _ _=>Iff.rfl⟩
theorem E:(∀p:Prop,(True∧p)=p)∧(∀p:Prop,(p∧True)=p)∧(∀p:Prop,(True→p)=p)∧(∀a b,bEq a b=decide (a=b))∧(∀a b,bNe a b= !decide (a=b))∧(∀a b,bLt a b=decide (a<b))∧(∀a b,bLe a b=decide (a≤b))∧(∀a,bNot a= !a)∧(∀p [Decidable p],(decide p=true)=p)∧(∀p [Decidable p],(decide p=false)=¬p)
 ∧(∀b:Bool,((!b)=true)=(b=false))∧(∀b:Bool,((!b)=false)=(b=true))∧(∀a b:Bool,bAnd a b=(a&&b)):=
 ⟨fun _=>true_and _,fun _=>and_true _,fun p=>propext ⟨fun h=>h trivial,fun h _=>h⟩,fun _ _=>rfl,fun _ _=>rfl,fun _ _=>rfl,fun _ _=>rfl,fun _=>rfl,fun p _=>by simp,fun p _=>by simp,fun b=>by cases b<;>simp,fun b=>by cases b<;>simp,fun _ _=>rfl⟩
end
end Go.Sx
namespace Go.Sx
abbrev hS:List Sh:=[.int .i64,.int .i64,.int .i64]
end Go.Sx
namespace Go.Sx
abbrev hP:List Sh:=[.int .i64,.int .i64,.int .i64,.int .i64,.int .i64]
end Go.Sx
namespace Go.Sx
abbrev hR:List Sh:=[.int .i64,.int .i64,.int .i64,.int .i64,.int .i64,.int .i64,.sl hW]
end Go.Sx
namespace Go.Sx
abbrev hG:List Sh:=[.int .i64,.int .i64,.int .i64,.int .i64,.int .i64,.int .i64,.int .i64,.int .i64,.int .i64,.int .i64,.int .i64,.sl hW,.int .i64,.int .i64]
end Go.Sx
namespace Go.Sx
abbrev hM:List Sh:=[.sl hL]
end Go.Sx
namespace Go.Sx
abbrev hX:List Sh:=[.int .i64,.sl hII,.sl hL,.sl hII]
end Go.Sx
namespace Go.Sx
abbrev hD:List Sh:=[.int .u64,.str,.int .i64,.int .i64,.int .i64,.int .i64,.int .i64,.sl hX]
end Go.Sx
namespace Go.Sx
abbrev hC:List Sh:=[.int .i64,.int .i64,.sl hI,.int .i64]
end Go.Sx
namespace Go.Sx
abbrev hV:List Sh:=[.int .u64,.str,.int .i64,.int .i64,.int .i64,.int .i64,.int .i64,.sl hX,.int .i64,.int .i64,.sl hI,.int .i64,.int .i64,.int .i64,.sl hS,.bool,.int .i64,.int .i64,.int .i64,.int .i64,.int .i64,.int .i64,.int .i64,.int .i64,.int .i64,.int .i64,.int .i64,.int .i64,.sl hW,.int .i64,.int .i64]
end Go.Sx
namespace Go
open Go.Sx
def Sp.alI (f:List C→Bool) (xs:List (List C)) (i:Int):Prop:=0≤i∧i≤(xs.length:Int)∧(xs.drop i.toNat).all f=xs.all f
def Sp.exI (f:List C→Bool) (xs:List (List C)) (i:Int):Prop:=0≤i∧i≤(xs.length:Int)∧(xs.drop i.toNat).any f=xs.any f
def Sp.rl (g:List C→List C→Bool) (xs:List (List C)) (ys:List (List C)):Bool:=
 match xs,ys with
 |[],[]=>true
 |x::r,y::s=>g x y&&Sp.rl g r s
 |_,_=>false
def Sp.rlI (g:List C→List C→Bool) (xs:List (List C)) (ys:List (List C)) (i:Int):Prop:=0≤i∧i≤(xs.length:Int)∧xs.length=ys.length∧Sp.rl g (xs.drop i.toNat) (ys.drop i.toNat)=Sp.rl g xs ys
end Go
namespace Go.Sx
theorem lpA {I:Int→Prop} {xs:List (List C)} {B:Int→Prop} {E:Int→Prop} (h0:I 0) (hp:∀x,I x→0≤x) (hb:∀x,I x→0≤x→x<(xs.length:Int)→B x) (he:∀x,I x→¬x<(xs.length:Int)→E x):
 (∃(x:Int),I x∧0=x)∧∀(x:Int),I x→InR .i64 x→(x<(xs.length:Int)→(0≤x∧x<(xs.length:Int))∧B x)∧(¬x<(xs.length:Int)→E x):=
 ⟨⟨0,h0,rfl⟩,fun x h _=>⟨fun hl=>⟨⟨hp x h,hl⟩,hb x h (hp x h) hl⟩,fun hl=>he x h hl⟩⟩
theorem inS {x:Int} {e:List Sh} {xs:List (List C)} (hw:WL e xs) (h0:0≤x) (h:x<(xs.length:Int)):InR .i64 (x+1):=by
 have:=hw.1
 simp only[InR]; omega
theorem drop_at {xs:List (List C)} {k:Int} (h0:0≤k) (h1:k<(xs.length:Int)):xs.drop k.toNat=rGet xs k::xs.drop (k+1).toNat:=by
 rw[List.drop_eq_getElem_cons (show k.toNat<xs.length by omega),show(k+1).toNat=k.toNat+1 by omega]
 congr 1
 simp[rGet,List.getD_eq_getElem?_getD,show k.toNat<xs.length by omega]
section
variable {f:List C→Bool} {xs:List (List C)} {i:Int}
theorem al0:Sp.alI f xs 0:=⟨Int.le_refl _,by omega,rfl⟩
theorem alN (h:Sp.alI f xs i) (hi:i<(xs.length:Int)) (hf:f (rGet xs i)=true):Sp.alI f xs (i+1):=by
 obtain⟨h0,h1,h2⟩:=h
 refine⟨by omega,by omega,?_⟩
 rw[←h2,drop_at h0 hi,List.all_cons,hf,Bool.true_and]
theorem alB (h:Sp.alI f xs i) (hi:i<(xs.length:Int)) (hf:f (rGet xs i)=false):false=xs.all f:=by
 obtain⟨h0,h1,h2⟩:=h
 rw[←h2,drop_at h0 hi,List.all_cons,hf,Bool.false_and]
theorem alE (h:Sp.alI f xs i) (hi:¬i<(xs.length:Int)):true=xs.all f:=by
 obtain⟨h0,h1,h2⟩:=h
 rw[←h2,List.drop_eq_nil_of_le (by omega)]; rfl
theorem ex0:Sp.exI f xs 0:=⟨Int.le_refl _,by omega,rfl⟩
theorem exN (h:Sp.exI f xs i) (hi:i<(xs.length:Int)) (hf:f (rGet xs i)=false):Sp.exI f xs (i+1):=by
 obtain⟨h0,h1,h2⟩:=h
 refine⟨by omega,by omega,?_⟩
 rw[←h2,drop_at h0 hi,List.any_cons,hf,Bool.false_or]
theorem exB (h:Sp.exI f xs i) (hi:i<(xs.length:Int)) (hf:f (rGet xs i)=true):true=xs.any f:=by
 obtain⟨h0,h1,h2⟩:=h
 rw[←h2,drop_at h0 hi,List.any_cons,hf,Bool.true_or]
theorem exE (h:Sp.exI f xs i) (hi:¬i<(xs.length:Int)):false=xs.any f:=by
 obtain⟨h0,h1,h2⟩:=h
 rw[←h2,List.drop_eq_nil_of_le (by omega)]; rfl
end
section
variable {g:List C→List C→Bool} {xs ys:List (List C)} {i:Int}
theorem rlL:∀ {xs ys:List (List C)},¬xs.length=ys.length→false=Sp.rl g xs ys
 |[],[],h=>(h rfl).elim
 |[],_::_,_=>rfl
 |_::_,[],_=>rfl
 |x::r,y::s,h=>by
  have:=rlL (xs:=r) (ys:=s) (by simpa using h)
  simp only[Sp.rl,←this,Bool.and_false]
theorem rl0 (h:xs.length=ys.length):Sp.rlI g xs ys 0:=⟨Int.le_refl _,by omega,h,rfl⟩
theorem rlN (h:Sp.rlI g xs ys i) (hi:i<(xs.length:Int)) (hf:g (rGet xs i) (rGet ys i)=true):Sp.rlI g xs ys (i+1):=by
 obtain⟨h0,h1,h2,h3⟩:=h
 refine⟨by omega,by omega,h2,?_⟩
 rw[←h3,drop_at h0 hi,drop_at h0 (by omega),Sp.rl,hf,Bool.true_and]
theorem rlB (h:Sp.rlI g xs ys i) (hi:i<(xs.length:Int)) (hf:g (rGet xs i) (rGet ys i)=false):false=Sp.rl g xs ys:=by
 obtain⟨h0,h1,h2,h3⟩:=h
 rw[←h3,drop_at h0 hi,drop_at h0 (by omega),Sp.rl,hf,Bool.false_and]
theorem rlE (h:Sp.rlI g xs ys i) (hi:¬i<(xs.length:Int)):true=Sp.rl g xs ys:=by
 obtain⟨h0,h1,h2,h3⟩:=h
 rw[←h3,List.drop_eq_nil_of_le (by omega),List.drop_eq_nil_of_le (by omega)]; rfl
end
end Go.Sx
namespace Go
open Go.Sx
def Sp.gcd (a b:Int):Int:=(Int.gcd a b:Int)
def Sp.rvalid (n d:Int):Bool:=decide (1≤n∧1≤d∧n≤68719476736∧d≤68719476736∧Sp.gcd n d=1)
def Sp.mhi (a b:Int):Int:=a*b/18446744073709551616
def Sp.mlo (a b:Int):Int:=a*b % 18446744073709551616
def Sp.len64 (a:Int):Int:=if a=0 then 0 else(a.toNat.log2:Int)+1
def Sp.dv (h l y:Int):Int:=(h*18446744073709551616+l)/y
def Sp.dr (h l y:Int):Int:=(h*18446744073709551616+l) % y
def Sp.mkE (a b:Int):Int:=if a<1∨b<1 then 1 else if 68719476736<a/Sp.gcd a b∨68719476736<b/Sp.gcd a b then 2 else 0
def Sp.mkV (a b v:Int):Int:=if Sp.mkE a b=0 then v/Sp.gcd a b else 0
end Go
namespace Go
open Go.Sx
theorem Sp.gcd_step (a b:Int):Sp.gcd b (a.tmod b)=Sp.gcd a b:=by
 unfold Sp.gcd Int.gcd
 rw[Int.natAbs_tmod,Nat.gcd_comm b.natAbs,←Nat.gcd_rec,Nat.gcd_comm]
theorem Sp.gcd_end {a:Int} (h:0<a):Sp.gcd a 0=a:=by
 unfold Sp.gcd
 rw[Int.gcd_zero_right]; omega
theorem Sp.gcd_pos {a b:Int} (h:1≤a):1≤Sp.gcd a b∧Sp.gcd a b≤a:=by
 unfold Sp.gcd
 have h1:0<Int.gcd a b:=Int.gcd_pos_of_ne_zero_left _ (by omega)
 have h2:(Int.gcd a b:Int)≤a:=Int.le_of_dvd (by omega) (Int.gcd_dvd_left ..)
 omega
theorem Sp.gcd_le2 {a b:Int} (h:1≤b):Sp.gcd a b≤b:=by
 unfold Sp.gcd
 exact Int.le_of_dvd (by omega) (Int.gcd_dvd_right ..)
theorem Sp.gcd_quo {a b:Int} (h:1≤a) (h':1≤b):1≤a/Sp.gcd a b∧a/Sp.gcd a b≤a∧1≤b/Sp.gcd a b∧b/Sp.gcd a b≤b:=by
 have p:=Sp.gcd_pos (b:=b) h
 have q:=Sp.gcd_le2 (a:=a) h'
 refine⟨?_,Int.ediv_le_self _ (by omega),?_,Int.ediv_le_self _ (by omega)⟩
 · exact(Int.le_ediv_iff_mul_le (by omega)).2 (by omega)
 · exact(Int.le_ediv_iff_mul_le (by omega)).2 (by omega)
theorem Sp.gcd_one {a b:Int} (h:1≤a):Sp.gcd (a/Sp.gcd a b) (b/Sp.gcd a b)=1:=by
 have h1:0<Int.gcd a b:=Int.gcd_pos_of_ne_zero_left _ (by omega)
 unfold Sp.gcd
 have:=Int.gcd_ediv_gcd_ediv_gcd h1
 rw[this]; rfl
theorem Sp.and_nat (a b:Nat) (ha:a<18446744073709551616) (hb:b<18446744073709551616):iAnd .u64 (a:Int) (b:Int)=((a&&&b:Nat):Int):=by
 show IntKind.u64.wrap _=_
 rw[IntKind.wrap_u64]
 have h1:(BitVec.ofInt IntKind.u64.bits (a:Int)&&&BitVec.ofInt IntKind.u64.bits (b:Int)).toNat=a&&&b:=by
  show(BitVec.ofInt 64 (a:Int)&&&BitVec.ofInt 64 (b:Int)).toNat=_
  rw[BitVec.toNat_and,BitVec.ofInt_natCast,BitVec.ofInt_natCast,BitVec.toNat_ofNat,BitVec.toNat_ofNat,Nat.mod_eq_of_lt ha,Nat.mod_eq_of_lt hb]
 rw[h1]
 have:=Nat.and_le_left (n:=a) (m:=b)
 omega
theorem Sp.or_nat (a b:Nat) (ha:a<18446744073709551616) (hb:b<18446744073709551616):iOr .u64 (a:Int) (b:Int)=((a|||b:Nat):Int):=by
 show IntKind.u64.wrap _=_
 rw[IntKind.wrap_u64]
 have h1:(BitVec.ofInt IntKind.u64.bits (a:Int)|||BitVec.ofInt IntKind.u64.bits (b:Int)).toNat=a|||b:=by
  show(BitVec.ofInt 64 (a:Int)|||BitVec.ofInt 64 (b:Int)).toNat=_
  rw[BitVec.toNat_or,BitVec.ofInt_natCast,BitVec.ofInt_natCast,BitVec.toNat_ofNat,BitVec.toNat_ofNat,Nat.mod_eq_of_lt ha,Nat.mod_eq_of_lt hb]
 rw[h1]
 have:=Nat.or_lt_two_pow (n:=64) (x:=a) (y:=b) (by simpa using ha) (by simpa using hb)
 have e:(2:Nat) ^ 64=18446744073709551616:=by decide
 omega
theorem Sp.and32 {x:Int} (h0:0≤x) (h1:x≤18446744073709551615):iAnd .u64 x 4294967295=x % 4294967296:=by
 obtain⟨a,rfl⟩:=Int.eq_ofNat_of_zero_le h0
 have:=Sp.and_nat a 4294967295 (by omega) (by omega)
 have e:=Nat.and_two_pow_sub_one_eq_mod a 32
 simp only[show(2:Nat) ^ 32=4294967296 by decide]at e
 rw[show(4294967296-1:Nat)=4294967295 by decide]at e
 rw[e]at this
 rw[show((4294967295:Nat):Int)=4294967295 from rfl]at this
 rw[this]
 omega
theorem Sp.wrap64 {x:Int} (h0:0≤x) (h1:x≤18446744073709551615):iWrap .u64 x=x:=by show IntKind.u64.wrap x=x; rw[IntKind.wrap_u64]; omega
theorem Sp.wrap64m (x:Int):iWrap .u64 x=x % 18446744073709551616:=by show IntKind.u64.wrap x=_; rw[IntKind.wrap_u64]
theorem Sp.shr32 (x:Int):iShr x 32=x/4294967296:=by
 show x.fdiv (2 ^ (32:Int).toNat)=_
 rw[Int.fdiv_eq_ediv_of_nonneg _ (by decide)]
 rfl
theorem Sp.mul64_int {x y:Int} (hx:0≤x) (hx':x≤18446744073709551615) (hy:0≤y) (hy':y≤18446744073709551615):
 0≤(x % 4294967296)*(y % 4294967296)∧(x % 4294967296)*(y % 4294967296)<18446744073709551616∧0≤(x/4294967296)*(y % 4294967296)∧(x/4294967296)*(y % 4294967296)<18446744073709551616∧
  (x/4294967296)*(y % 4294967296)+(x % 4294967296)*(y % 4294967296)/4294967296<18446744073709551616∧0≤(x % 4294967296)*(y/4294967296)∧(x % 4294967296)*(y/4294967296)<18446744073709551616∧
  ((x/4294967296)*(y % 4294967296)+(x % 4294967296)*(y % 4294967296)/4294967296) % 4294967296+(x % 4294967296)*(y/4294967296)<18446744073709551616∧
  0≤(x/4294967296)*(y/4294967296)∧(x/4294967296)*(y/4294967296)<18446744073709551616∧0≤x*y/18446744073709551616∧x*y/18446744073709551616<18446744073709551616∧
  (x/4294967296)*(y/4294967296)+((x/4294967296)*(y % 4294967296)+(x % 4294967296)*(y % 4294967296)/4294967296)/4294967296+(((x/4294967296)*(y % 4294967296)+(x % 4294967296)*(y % 4294967296)/4294967296) % 4294967296+(x % 4294967296)*(y/4294967296))/4294967296=x*y/18446744073709551616:=by
 obtain⟨a,rfl⟩:=Int.eq_ofNat_of_zero_le hx
 obtain⟨b,rfl⟩:=Int.eq_ofNat_of_zero_le hy
 have:=Go.Lib.mul64_hi a b (by omega) (by omega)
 have q1:=Go.Lib.half_mul_le (a:=a/4294967296) (b:=b/4294967296) (by omega) (by omega)
 have q2:=Go.Lib.half_mul_le (a:=a/4294967296) (b:=b % 4294967296) (by omega) (by omega)
 have q3:=Go.Lib.half_mul_le (a:=a % 4294967296) (b:=b/4294967296) (by omega) (by omega)
 have q4:=Go.Lib.half_mul_le (a:=a % 4294967296) (b:=b % 4294967296) (by omega) (by omega)
 have e1:((a:Int) % 4294967296)=((a % 4294967296:Nat):Int):=by omega
 have e2:((b:Int) % 4294967296)=((b % 4294967296:Nat):Int):=by omega
 have e3:((a:Int)/4294967296)=((a/4294967296:Nat):Int):=by omega
 have e4:((b:Int)/4294967296)=((b/4294967296:Nat):Int):=by omega
 rw[e1,e2,e3,e4,←Int.natCast_mul,←Int.natCast_mul,←Int.natCast_mul,←Int.natCast_mul,←Int.natCast_mul]
 generalize (a/4294967296)*(b/4294967296)=p at*
 generalize (a/4294967296)*(b % 4294967296)=q at*
 generalize (a % 4294967296)*(b/4294967296)=r at*
 generalize (a % 4294967296)*(b % 4294967296)=s at*
 generalize a*b=z at*
 omega
end Go
namespace Go.Sx
def A206 (p:Int) (q:Int):FuncId→Nat→LoopAnn:=fun _ _=> .inv (Int×Int) (fun x=>0<x.1∧0≤x.2∧Sp.gcd x.1 x.2=Sp.gcd p q) (fun x=>[(0,.int .i64 x.1),(1,.int .i64 x.2)]) (fun _=>[]) [] [0,1,4,6] (fun x=>x.2.toNat)
theorem v206 (p:Int) (q:Int):InR .i64 p∧InR .i64 q→0<p∧0≤q→(∃(x:Int×Int),(0<x.1∧0≤x.2∧Sp.gcd x.1 x.2=Sp.gcd p q)∧p=x.1∧q=x.2)∧∀(x:Int×Int),0<x.1∧0≤x.2∧Sp.gcd x.1 x.2=Sp.gcd p q→InR .i64 x.1∧InR .i64 x.2→Cn (bNe x.2 0) (pNe x.2 0∧∃(y:Int×Int),(0<y.1∧0≤y.2∧Sp.gcd y.1 y.2=Sp.gcd p q)∧x.2=y.1∧iRem x.1 x.2=y.2∧nLt y.2.toNat x.2.toNat) (x.1=Sp.gcd p q):=by
 intro hw hp
 simp only[Cn_iff,Sm_iff,true_and]
 refine⟨⟨(p,q),⟨hp.1,hp.2,rfl⟩,rfl,rfl⟩,fun x hx _=>⟨fun h=> ?_,fun h=> ?_⟩⟩
 · have hne:x.2≠0:=by simpa using h
   have hb:=rem_bd x.1 (b:=x.2) (by omega)
   have h0:0≤x.1.tmod x.2:=Int.tmod_nonneg _ (by omega)
   exact⟨hne,(x.2,x.1.tmod x.2),⟨by simp only; omega,h0,by rw[Sp.gcd_step]; exact hx.2.2⟩,rfl,rfl,by simp only; omega⟩
 · have h0:x.2=0:=by simpa using h
   rw[←hx.2.2,h0,Sp.gcd_end hx.1]
def r206:Cr PR:=K [] 206 6 {ps:=[(false,hI),(false,hI)],rs:=[(false,hI)],pre:=fun a=>0<(I a 0 0)∧0≤(I a 1 0),out:=fun a=>[[.i (Sp.gcd (I a 0 0) (I a 1 0))]]} (fun a=>A206 (I a 0 0) (I a 1 0)) fun a=>Y (v206 (I a 0 0) (I a 1 0))
end Go.Sx
namespace Go.Sx
def A74 (p:Int) (q:Int):FuncId→Nat→LoopAnn:=fun _ _=> .inv (Int×Int) (fun x=>0<x.1∧0≤x.2∧Sp.gcd x.1 x.2=Sp.gcd p q) (fun x=>[(0,.int .i64 x.1),(1,.int .i64 x.2)]) (fun _=>[]) [] [0,1,4,6] (fun x=>x.2.toNat)
theorem v74 (p:Int) (q:Int):InR .i64 p∧InR .i64 q→0<p∧0≤q→(∃(x:Int×Int),(0<x.1∧0≤x.2∧Sp.gcd x.1 x.2=Sp.gcd p q)∧p=x.1∧q=x.2)∧∀(x:Int×Int),0<x.1∧0≤x.2∧Sp.gcd x.1 x.2=Sp.gcd p q→InR .i64 x.1∧InR .i64 x.2→Cn (bNe x.2 0) (pNe x.2 0∧∃(y:Int×Int),(0<y.1∧0≤y.2∧Sp.gcd y.1 y.2=Sp.gcd p q)∧x.2=y.1∧iRem x.1 x.2=y.2∧nLt y.2.toNat x.2.toNat) (x.1=Sp.gcd p q):=by
 intro hw hp
 simp only[Cn_iff,Sm_iff,true_and]
 refine⟨⟨(p,q),⟨hp.1,hp.2,rfl⟩,rfl,rfl⟩,fun x hx _=>⟨fun h=> ?_,fun h=> ?_⟩⟩
 · have hne:x.2≠0:=by simpa using h
   have hb:=rem_bd x.1 (b:=x.2) (by omega)
   have h0:0≤x.1.tmod x.2:=Int.tmod_nonneg _ (by omega)
   exact⟨hne,(x.2,x.1.tmod x.2),⟨by simp only; omega,h0,by rw[Sp.gcd_step]; exact hx.2.2⟩,rfl,rfl,by simp only; omega⟩
 · have h0:x.2=0:=by simpa using h
   rw[←hx.2.2,h0,Sp.gcd_end hx.1]
def r74:Cr PR:=K [] 74 6 {ps:=[(false,hI),(false,hI)],rs:=[(false,hI)],pre:=fun a=>0<(I a 0 0)∧0≤(I a 1 0),out:=fun a=>[[.i (Sp.gcd (I a 0 0) (I a 1 0))]]} (fun a=>A74 (I a 0 0) (I a 1 0)) fun a=>Y (v74 (I a 0 0) (I a 1 0))
end Go.Sx
namespace Go.Sx
theorem v144 (n:Int) (d:Int):InR .i64 n∧InR .i64 d→Cn (bLe 1 n) (Cn (bLe 1 d) (Cn (bLe n 68719476736) (Cn (bLe d 68719476736) ((0<n∧0≤d)∧(InR .i64 (Sp.gcd n d)→bEq (Sp.gcd n d) 1=Sp.rvalid n d)) (false=Sp.rvalid n d)) (false=Sp.rvalid n d)) (false=Sp.rvalid n d)) (false=Sp.rvalid n d):=by
 intro hw
 simp only[Cn_iff,Sm_iff,true_and]
 simp only[D,E,Sp.rvalid]
 repeat' (first|apply And.intro|intro _)
 all_goals (first|omega|(simp only[decide_eq_decide]; omega)|(symm; simp only[decide_eq_false_iff_not]; omega))
def r144:Cr PR:=K0 [r206] 144 6 {ps:=[(true,hII)],rs:=[(false,[.bool])],pre:=fun _=>True,out:=fun a=>[[.b (Sp.rvalid (I a 0 0) (I a 0 1))]]} U fun a=>Y (v144 (I a 0 0) (I a 0 1))
end Go.Sx
namespace Go.Sx
theorem v76 (n:Int) (d:Int):InR .i64 n∧InR .i64 d→Cn (bLe 1 n) (Cn (bLe 1 d) (Cn (bLe n 68719476736) (Cn (bLe d 68719476736) ((0<n∧0≤d)∧(InR .i64 (Sp.gcd n d)→bEq (Sp.gcd n d) 1=Sp.rvalid n d)) (false=Sp.rvalid n d)) (false=Sp.rvalid n d)) (false=Sp.rvalid n d)) (false=Sp.rvalid n d):=by
 intro hw
 simp only[Cn_iff,Sm_iff,true_and]
 simp only[D,E,Sp.rvalid]
 repeat' (first|apply And.intro|intro _)
 all_goals (first|omega|(simp only[decide_eq_decide]; omega)|(symm; simp only[decide_eq_false_iff_not]; omega))
def r76:Cr PR:=K0 [r74] 76 6 {ps:=[(true,hII)],rs:=[(false,[.bool])],pre:=fun _=>True,out:=fun a=>[[.b (Sp.rvalid (I a 0 0) (I a 0 1))]]} U fun a=>Y (v76 (I a 0 0) (I a 0 1))
end Go.Sx
namespace Go.Sx
theorem v139 (x:Int) (y:Int):InR .u64 x∧InR .u64 y→True→pSh 64 32∧pSh 64 32∧pSh 64 32∧pSh 64 32∧pSh 64 32∧iWrap .u64 (iAdd (iWrap .u64 (iAdd (iWrap .u64 (iMul (iShr x 32) (iShr y 32))) (iShr (iWrap .u64 (iAdd (iWrap .u64 (iMul (iShr x 32) (iAnd IntKind.u64 y 4294967295))) (iShr (iWrap .u64 (iMul (iAnd IntKind.u64 x 4294967295) (iAnd IntKind.u64 y 4294967295))) 32))) 32))) (iShr (iWrap .u64 (iAdd (iAnd IntKind.u64 (iWrap .u64 (iAdd (iWrap .u64 (iMul (iShr x 32) (iAnd IntKind.u64 y 4294967295))) (iShr (iWrap .u64 (iMul (iAnd IntKind.u64 x 4294967295) (iAnd IntKind.u64 y 4294967295))) 32))) 4294967295) (iWrap .u64 (iMul (iAnd IntKind.u64 x 4294967295) (iShr y 32))))) 32))=Sp.mhi x y∧iWrap .u64 (iMul x y)=Sp.mlo x y:=by
 intro hw hp
 simp only[Wfs,Wf,InR,and_true]at hw
 have c:pSh 64 32:=by decide
 refine⟨c,c,c,c,c,?_⟩
 have m:=Sp.mul64_int (x:=x) (y:=y) (by omega) (by omega) (by omega) (by omega)
 simp only[Sp.shr32,iMul,iAdd]
 rw[Sp.and32 (x:=x) (by omega) (by omega),Sp.and32 (x:=y) (by omega) (by omega)]
 rw[Sp.wrap64 (x:=x % 4294967296*(y % 4294967296)) (by omega) (by omega),Sp.wrap64 (x:=x/4294967296*(y % 4294967296)) (by omega) (by omega)]
 rw[Sp.wrap64 (x:=x/4294967296*(y % 4294967296)+x % 4294967296*(y % 4294967296)/4294967296) (by omega) (by omega)]
 rw[Sp.wrap64 (x:=x % 4294967296*(y/4294967296)) (by omega) (by omega),Sp.wrap64 (x:=x/4294967296*(y/4294967296)) (by omega) (by omega)]
 rw[Sp.and32 (by omega) (by omega)]
 rw[Sp.wrap64 (x:=(x/4294967296*(y % 4294967296)+x % 4294967296*(y % 4294967296)/4294967296) % 4294967296+x % 4294967296*(y/4294967296)) (by omega) (by omega)]
 rw[Sp.wrap64 (x:=x/4294967296*(y/4294967296)+(x/4294967296*(y % 4294967296)+x % 4294967296*(y % 4294967296)/4294967296)/4294967296) (by omega) (by omega)]
 rw[Sp.wrap64 (x:=x/4294967296*(y/4294967296)+(x/4294967296*(y % 4294967296)+x % 4294967296*(y % 4294967296)/4294967296)/4294967296+_) (by omega) (by omega)]
 rw[Sp.wrap64m]
 unfold Sp.mhi Sp.mlo
 simp only[m.2.2.2.2.2.2.2.2.2.2.2.2]
 simp
def r139:Cr PR:=Kw (fun _=>true) [] 139 6 {ps:=[(false,[.int .u64]),(false,[.int .u64])],rs:=[(false,[.int .u64]),(false,[.int .u64])],pre:=fun _=>True,out:=fun a=>[[.i (Sp.mhi (I a 0 0) (I a 1 0))],[.i (Sp.mlo (I a 0 0) (I a 1 0))]]} U fun a=>Y (v139 (I a 0 0) (I a 1 0))
end Go.Sx

set_option linter.unusedVariables false
set_option linter.unusedSimpArgs false
set_option maxRecDepth 100000
set_option maxHeartbeats 4000000
namespace Go
open Go.Sx
structure Sp.Digit (a u D q r:Int):Prop where
 q0:0≤q
 r0:0≤r
 r1:r<4294967296
 q1:q≤4294967297
 e:a=q*(D/4294967296)+r
 le:(a*4294967296+u)/D≤q
theorem Sp.digit_mul (D q:Int):q*D=q*(D/4294967296)*4294967296+q*(D % 4294967296):=by
 have h:D=D/4294967296*4294967296+D % 4294967296:=by omega
 have h2:q*(D/4294967296*4294967296+D % 4294967296)=q*(D/4294967296)*4294967296+q*(D % 4294967296):=by rw[Int.mul_add,Int.mul_assoc]
 rw[←h]at h2
 exact h2
theorem Sp.quo_le {N D q:Int} (hD:0<D) (h:q*D≤N):q≤N/D:=(Int.le_ediv_iff_mul_le hD).2 h
theorem Sp.quo_lt {N D q:Int} (hD:0<D) (h:N<q*D):N/D<q:=Int.ediv_lt_of_lt_mul hD h
theorem Sp.Digit.stop {a u D q r:Int} (h:Sp.Digit a u D q r) (hD:0<D) (hc:q*(D % 4294967296)≤4294967296*r+u):q=(a*4294967296+u)/D:=by
 have m:=Sp.digit_mul D q
 have e:=h.e
 have l:=h.le
 generalize q*(D/4294967296)=p at*
 have:=Sp.quo_le (N:=a*4294967296+u) (D:=D) (q:=q) hD (by omega)
 omega
theorem Sp.quo_small {a u D:Int} (hD:0<D) (ha:a<D) (hu:u<4294967296):(a*4294967296+u)/D<4294967296:=
 Sp.quo_lt hD (by omega)
theorem Sp.Digit.bd {a u D q r:Int} (h:Sp.Digit a u D q r) (hD1:9223372036854775808≤D) (hD2:D≤18446744073709551615):0≤q*(D % 4294967296)∧q*(D % 4294967296)≤18446744073709551615:=by
 have:=mul_bd (x:=q) (X:=4294967297) (y:=D % 4294967296) (Y:=4294967295) h.q0 h.q1 (by omega) (by omega)
 omega
theorem Sp.Digit.dec {a u D q r:Int} (h:Sp.Digit a u D q r) (hD1:9223372036854775808≤D) (hD2:D≤18446744073709551615) (ha:0≤a) (ha':a<D) (hu:0≤u) (hu':u<4294967296)
 (hc:4294967296≤q∨4294967296*r+u<q*(D % 4294967296)):
 1≤q∧0≤r+D/4294967296∧r+D/4294967296≤18446744073709551615∧(r+D/4294967296<4294967296→Sp.Digit a u D (q-1) (r+D/4294967296))∧(4294967296≤r+D/4294967296→q-1=(a*4294967296+u)/D):=by
 have hs:=Sp.quo_small (a:=a) (u:=u) (D:=D) (by omega) ha' hu'
 have hn:0≤(a*4294967296+u)/D:=Int.ediv_nonneg (by omega) (by omega)
 have hlt:(a*4294967296+u)/D<q:=by
  rcases hc with hc|hc
  · omega
  · refine Sp.quo_lt (by omega) ?_
    have m:=Sp.digit_mul D q
    have e:=h.e
    generalize q*(D/4294967296)=p at*
    omega
 have e1:a=(q-1)*(D/4294967296)+(r+D/4294967296):=by
  rw[Int.sub_mul,Int.one_mul]; have:=h.e; omega
 have q1:q-1≤4294967296:=by have:=h.q1; omega
 have r0:=h.r0
 have r1:=h.r1
 refine⟨by omega,by omega,by omega,fun hr=>⟨by omega,by omega,hr,by omega,e1,by omega⟩,fun hr=> ?_⟩
 have m:=Sp.digit_mul D (q-1)
 have b:=mul_bd (x:=q-1) (X:=4294967296) (y:=D % 4294967296) (Y:=4294967295) (by omega) q1 (by omega) (by omega)
 generalize (q-1)*(D/4294967296)=p at*
 have:=Sp.quo_le (N:=a*4294967296+u) (D:=D) (q:=q-1) (by omega) (by omega)
 omega
theorem Sp.Digit.init {a u D:Int} (hD1:9223372036854775808≤D) (hD2:D≤18446744073709551615) (ha:0≤a) (ha':a<D) (hu:0≤u) (hu':u<4294967296):Sp.Digit a u D (a/(D/4294967296)) (a-a/(D/4294967296)*(D/4294967296)):=by
 have hv:0<D/4294967296:=by omega
 have d1:=Int.emod_add_mul_ediv a (D/4294967296)
 have d2:=Int.emod_nonneg a (show D/4294967296≠0 by omega)
 have d3:=Int.emod_lt_of_pos a hv
 rw[Int.mul_comm]at d1
 have q0:0≤a/(D/4294967296):=Int.ediv_nonneg ha (by omega)
 refine⟨q0,by omega,by omega,?_,by omega,?_⟩
 · have:a/(D/4294967296)<4294967298:=Sp.quo_lt hv (by omega)
   omega
 · have m:=Sp.digit_mul D (a/(D/4294967296)+1)
   have b:0≤(a/(D/4294967296)+1)*(D % 4294967296):=Int.mul_nonneg (by omega) (by omega)
   have m2:(a/(D/4294967296)+1)*(D/4294967296)=a/(D/4294967296)*(D/4294967296)+D/4294967296:=by rw[Int.add_mul,Int.one_mul]
   rw[m2]at m
   have:=Sp.quo_lt (N:=a*4294967296+u) (D:=D) (q:=a/(D/4294967296)+1) (by omega) (by omega)
   omega
theorem Sp.len64_bd {y:Int} (h0:1≤y) (h1:y≤18446744073709551615):1≤Sp.len64 y∧Sp.len64 y≤64∧9223372036854775808≤y*2 ^ (64-Sp.len64 y).toNat∧y*2 ^ (64-Sp.len64 y).toNat≤18446744073709551615:=by
 obtain⟨a,rfl⟩:=Int.eq_ofNat_of_zero_le (show 0≤y by omega)
 have ha:a≠0:=by omega
 have l1:=Nat.log2_self_le ha
 have l2:=Nat.lt_log2_self (n:=a)
 have l3:a.log2<64:=(Nat.log2_lt ha).2 (by omega)
 have e:Sp.len64 (a:Int)=(a.log2:Int)+1:=by unfold Sp.len64; rw[if_neg (by omega)]; simp
 have e2:(64-Sp.len64 (a:Int)).toNat=63-a.log2:=by omega
 rw[e2,e]
 have p1:(2:Nat) ^ a.log2*2 ^ (63-a.log2)=9223372036854775808:=by rw[←Nat.pow_add,show a.log2+(63-a.log2)=63 by omega]
 have p2:(2:Nat) ^ (a.log2+1)*2 ^ (63-a.log2)=18446744073709551616:=by rw[←Nat.pow_add,show a.log2+1+(63-a.log2)=64 by omega]
 have k1:=Nat.mul_le_mul_right (2 ^ (63-a.log2)) l1
 have k2:a*2 ^ (63-a.log2)<2 ^ (a.log2+1)*2 ^ (63-a.log2):=Nat.mul_lt_mul_of_pos_right l2 (Nat.two_pow_pos _)
 have e3:(a:Int)*2 ^ (63-a.log2)=((a*2 ^ (63-a.log2):Nat):Int):=by rw[Int.natCast_mul,Int.natCast_pow]; rfl
 rw[e3]
 omega
theorem Sp.len_up {a:Nat} (k:Nat) (h:2 ^ k≤a):a.log2=k+(a/2 ^ k).log2:=by
 have hp:=Nat.two_pow_pos k
 have h1:1≤a/2 ^ k:=(Nat.le_div_iff_mul_le hp).2 (by omega)
 have h2:=Nat.log2_self_le (n:=a/2 ^ k) (by omega)
 have h3:=Nat.lt_log2_self (n:=a/2 ^ k)
 rw[Nat.log2_eq_iff (by omega)]
 constructor
 · rw[Nat.pow_add,Nat.mul_comm]
   exact(Nat.le_div_iff_mul_le hp).1 h2
 · rw[show k+(a/2 ^ k).log2+1=(a/2 ^ k).log2+1+k by omega,Nat.pow_add]
   exact(Nat.div_lt_iff_lt_mul hp).1 h3
theorem Sp.len64_up {x:Int} (k:Nat) (h:(2:Int) ^ k≤x):Sp.len64 x=k+Sp.len64 (x/2 ^ k):=by
 obtain⟨a,rfl⟩:=Int.eq_ofNat_of_zero_le (show 0≤x from Int.le_trans (Int.le_of_lt (Int.pow_pos (by decide))) h)
 have hp:=Nat.two_pow_pos k
 have e:(2:Int) ^ k=((2 ^ k:Nat):Int):=by rw[Int.natCast_pow]; rfl
 rw[e]at h ⊢
 have ha:2 ^ k≤a:=by omega
 have h1:1≤a/2 ^ k:=(Nat.le_div_iff_mul_le hp).2 (by omega)
 have e2:(a:Int)/((2 ^ k:Nat):Int)=((a/2 ^ k:Nat):Int):=rfl
 rw[e2]
 unfold Sp.len64
 rw[if_neg (by omega),if_neg (by omega),Int.toNat_natCast,Int.toNat_natCast,Sp.len_up k ha]
 omega
end Go
namespace Go
open Go.Sx
def Sp.dP (y:Int):Int:=2 ^ (64-Sp.len64 y).toNat
def Sp.dD (y:Int):Int:=y*Sp.dP y
def Sp.dU (h l y:Int):Int:=h*Sp.dP y+l/2 ^ (64- (64-Sp.len64 y)).toNat
def Sp.dB (l y:Int):Int:=l*Sp.dP y % 18446744073709551616
def Sp.q1 (h l y:Int):Int:=(Sp.dU h l y*4294967296+Sp.dB l y/4294967296)/Sp.dD y
def Sp.a1 (h l y:Int):Int:=Sp.dU h l y*4294967296+Sp.dB l y/4294967296-Sp.q1 h l y*Sp.dD y
def Sp.q0 (h l y:Int):Int:=(Sp.a1 h l y*4294967296+Sp.dB l y % 4294967296)/Sp.dD y
def Sp.dig (a u d q r:Int):Prop:=Sp.Digit a u d q r
end Go
namespace Go
open Go.Sx
theorem Sp.or_add {a b:Int} {i:Nat} (ha:0≤a) (hb:0≤b) (hb':b<2 ^ i) (h:a*2 ^ i+b≤18446744073709551615):iOr .u64 (a*2 ^ i) b=a*2 ^ i+b:=by
 obtain⟨x,rfl⟩:=Int.eq_ofNat_of_zero_le ha
 obtain⟨y,rfl⟩:=Int.eq_ofNat_of_zero_le hb
 have e:(2:Int) ^ i=((2 ^ i:Nat):Int):=by rw[Int.natCast_pow]; rfl
 rw[e]at hb' h ⊢
 have e2:(x:Int)*((2 ^ i:Nat):Int)=((x*2 ^ i:Nat):Int):=by rw[Int.natCast_mul]
 rw[e2]at h ⊢
 rw[Sp.or_nat _ _ (by omega) (by omega)]
 have:=Nat.shiftLeft_add_eq_or_of_lt (i:=i) (b:=y) (by omega) x
 rw[Nat.shiftLeft_eq]at this
 rw[←this]; simp
structure Sp.DivF (h l y:Int):Prop where
 s0:0≤64-Sp.len64 y
 s1:64-Sp.len64 y≤63
 e0:iWrap .u64 (64-Sp.len64 y)=64-Sp.len64 y
 e1:iWrap .u64 (iShl y (64-Sp.len64 y))=Sp.dD y
 e2:iOr .u64 (iWrap .u64 (iShl h (64-Sp.len64 y))) (iShr l (iWrap .u64 (iSub 64 (64-Sp.len64 y))))=Sp.dU h l y
 e3:iWrap .u64 (iShl l (64-Sp.len64 y))=Sp.dB l y
 e4:iWrap .u64 (iSub 64 (64-Sp.len64 y))=64- (64-Sp.len64 y)
 d0:9223372036854775808≤Sp.dD y
 d1:Sp.dD y≤18446744073709551615
 u0:0≤Sp.dU h l y
 u1:Sp.dU h l y<Sp.dD y
 b0:0≤Sp.dB l y
 b1:Sp.dB l y<18446744073709551616
 p0:1≤Sp.dP y
 eq:(h*18446744073709551616+l)*Sp.dP y=Sp.dU h l y*18446744073709551616+Sp.dB l y
theorem Sp.div_facts {h l y:Int} (hh:0≤h) (hl:0≤l) (hl':l≤18446744073709551615) (hy:y≤18446744073709551615) (hlt:h<y):Sp.DivF h l y:=by
 have L:=Sp.len64_bd (y:=y) (by omega) hy
 have e0:iWrap .u64 (64-Sp.len64 y)=64-Sp.len64 y:=Sp.wrap64 (by omega) (by omega)
 have e4:iWrap .u64 (iSub 64 (64-Sp.len64 y))=64- (64-Sp.len64 y):=Sp.wrap64 (by simp only[iSub]; omega) (by simp only[iSub]; omega)
 have hP:(2:Int) ^ (64-Sp.len64 y).toNat*2 ^ (64- (64-Sp.len64 y)).toNat=18446744073709551616:=by
  rw[←Int.pow_add,show(64-Sp.len64 y).toNat+(64- (64-Sp.len64 y)).toNat=64 by omega]; rfl
 have p0:(0:Int)<2 ^ (64-Sp.len64 y).toNat:=Int.pow_pos (by decide)
 have p1:(0:Int)<2 ^ (64- (64-Sp.len64 y)).toNat:=Int.pow_pos (by decide)
 have eD:Sp.dD y=y*2 ^ (64-Sp.len64 y).toNat:=rfl
 have eU:Sp.dU h l y=h*2 ^ (64-Sp.len64 y).toNat+l/2 ^ (64- (64-Sp.len64 y)).toNat:=rfl
 have eB:Sp.dB l y=l*2 ^ (64-Sp.len64 y).toNat % 18446744073709551616:=rfl
 have eP:Sp.dP y=2 ^ (64-Sp.len64 y).toNat:=rfl
 have hq:l/2 ^ (64- (64-Sp.len64 y)).toNat<2 ^ (64-Sp.len64 y).toNat:=Int.ediv_lt_of_lt_mul p1 (by rw[hP]; omega)
 have hq0:0≤l/2 ^ (64- (64-Sp.len64 y)).toNat:=Int.ediv_nonneg hl (by omega)
 have hh1:h*2 ^ (64-Sp.len64 y).toNat+2 ^ (64-Sp.len64 y).toNat≤y*2 ^ (64-Sp.len64 y).toNat:=by
  have:=Int.mul_le_mul_of_nonneg_right (show h+1≤y by omega) (Int.le_of_lt p0)
  rw[Int.add_mul,Int.one_mul]at this; exact this
 have hh0:0≤h*2 ^ (64-Sp.len64 y).toNat:=Int.mul_nonneg hh (by omega)
 have m1:=Int.emod_add_mul_ediv l (2 ^ (64- (64-Sp.len64 y)).toNat)
 have m2:=Int.emod_nonneg l (show(2:Int) ^ (64- (64-Sp.len64 y)).toNat≠0 by omega)
 have m3:=Int.emod_lt_of_pos l p1
 have k1:l*2 ^ (64-Sp.len64 y).toNat=l/2 ^ (64- (64-Sp.len64 y)).toNat*18446744073709551616+l % 2 ^ (64- (64-Sp.len64 y)).toNat*2 ^ (64-Sp.len64 y).toNat:=by
  rw[←hP]
  generalize (2:Int) ^ (64-Sp.len64 y).toNat=p at*
  generalize (2:Int) ^ (64- (64-Sp.len64 y)).toNat=p' at*
  have:(l % p'+p'*(l/p'))*p=l*p:=by rw[m1]
  rw[←this,Int.add_mul,Int.add_comm (l % p'*p),Int.mul_comm p' (l/p'),Int.mul_assoc,Int.mul_comm p' p]
 have k2:0≤l % 2 ^ (64- (64-Sp.len64 y)).toNat*2 ^ (64-Sp.len64 y).toNat:=Int.mul_nonneg m2 (by omega)
 have k3:l % 2 ^ (64- (64-Sp.len64 y)).toNat*2 ^ (64-Sp.len64 y).toNat<18446744073709551616:=by
  rw[←hP,Int.mul_comm (2 ^ (64-Sp.len64 y).toNat)]
  exact Int.mul_lt_mul_of_pos_right m3 p0
 have eq:(h*18446744073709551616+l)*Sp.dP y=Sp.dU h l y*18446744073709551616+Sp.dB l y:=by
  rw[eB,k1,eU,eP,Int.add_mul,k1,Int.add_mul,Int.mul_right_comm h 18446744073709551616]
  omega
 have e1:iWrap .u64 (iShl y (64-Sp.len64 y))=Sp.dD y:=Sp.wrap64 (by simp only[iShl]; omega) (by simp only[iShl]; omega)
 have ew:iWrap .u64 (iShl h (64-Sp.len64 y))=h*2 ^ (64-Sp.len64 y).toNat:=Sp.wrap64 (by simp only[iShl]; omega) (by simp only[iShl]; omega)
 refine⟨by omega,by omega,e0,e1,?_,Sp.wrap64m _,e4,by omega,by omega,by omega,by omega,by omega,by omega,by omega,eq⟩
 rw[e4,ew]
 have es:iShr l (64- (64-Sp.len64 y))=l/2 ^ (64- (64-Sp.len64 y)).toNat:=Int.fdiv_eq_ediv_of_nonneg _ (by omega)
 rw[es,eU]
 exact Sp.or_add hh hq0 hq (by omega)
theorem Sp.div_fin {H y p Q R:Int} (hp:1≤p) (hy:1≤y) (e:H*p=Q*(y*p)+R) (r0:0≤R) (r1:R<y*p):H/y=Q∧H % y=R/p:=by
 have e2:R=(H-Q*y)*p:=by rw[Int.sub_mul,e,Int.mul_assoc]; omega
 have e3:R/p=H-Q*y:=by rw[e2,Int.mul_ediv_cancel _ (by omega)]
 have h0:0≤H-Q*y:=by rw[←e3]; exact Int.ediv_nonneg r0 (by omega)
 have h1:H-Q*y<y:=by rw[←e3]; exact Int.ediv_lt_of_lt_mul (by omega) r1
 have h2:=(Int.ediv_emod_unique (a:=H) (b:=y) (r:=H-Q*y) (q:=Q) (by omega)).2 ⟨by rw[Int.mul_comm y]; omega,h0,h1⟩
 rw[e3]; exact h2
theorem Sp.quo_rest {N D:Int} (hD:0<D):0≤N-N/D*D∧N-N/D*D<D:=by
 have d1:=Int.emod_add_mul_ediv N D
 have d2:=Int.emod_nonneg N (show D≠0 by omega)
 have d3:=Int.emod_lt_of_pos N hD
 rw[Int.mul_comm]at d1
 omega
end Go
namespace Go.Sx
def m250_0:ByteArray:= {data:= {toList:=([0,1,2,2,3,3,3,3,4,4,4,4,4,4,4,4,5,5,5,5,5,5,5,5,5,5,5,5,5,5,5,5,6,6,6,6,6,6,6,6,6,6,6,6,6,6,6,6,6,6,6,6,6,6,6,6,6,6,6,6,6,6,6,6].append [7,7,7,7,7,7,7,7,7,7,7,7,7,7,7,7,7,7,7,7,7,7,7,7,7,7,7,7,7,7,7,7,7,7,7,7,7,7,7,7,7,7,7,7,7,7,7,7,7,7,7,7,7,7,7,7,7,7,7,7,7,7,7,7]).append ([8,8,8,8,8,8,8,8,8,8,8,8,8,8,8,8,8,8,8,8,8,8,8,8,8,8,8,8,8,8,8,8,8,8,8,8,8,8,8,8,8,8,8,8,8,8,8,8,8,8,8,8,8,8,8,8,8,8,8,8,8,8,8,8].append [8,8,8,8,8,8,8,8,8,8,8,8,8,8,8,8,8,8,8,8,8,8,8,8,8,8,8,8,8,8,8,8,8,8,8,8,8,8,8,8,8,8,8,8,8,8,8,8,8,8,8,8,8,8,8,8,8,8,8,8,8,8,8,8])}}
theorem v250 (x:Int):InR .u64 x→True→Cn (bLe 4294967296 x) (pSh 64 32∧Cn (bLe 65536 (iShr x 32)) (pSh 64 16∧Cn (bLe 256 (iShr (iShr x 32) 16)) (pSh 64 8∧pIn 0 (iSize m250_0) (iWrap .u8 (iShr (iShr (iShr x 32) 16) 8))∧iWrap .i64 (iAdd (32+16+8) (sAt m250_0 (iWrap .u8 (iShr (iShr (iShr x 32) 16) 8))))=Sp.len64 x) (pIn 0 (iSize m250_0) (iWrap .u8 (iShr (iShr x 32) 16))∧iWrap .i64 (iAdd (32+16) (sAt m250_0 (iWrap .u8 (iShr (iShr x 32) 16))))=Sp.len64 x)) (Cn (bLe 256 (iShr x 32)) (pSh 64 8∧pIn 0 (iSize m250_0) (iWrap .u8 (iShr (iShr x 32) 8))∧iWrap .i64 (iAdd (32+8) (sAt m250_0 (iWrap .u8 (iShr (iShr x 32) 8))))=Sp.len64 x) (pIn 0 (iSize m250_0) (iWrap .u8 (iShr x 32))∧iWrap .i64 (iAdd 32 (sAt m250_0 (iWrap .u8 (iShr x 32))))=Sp.len64 x))) (Cn (bLe 65536 x) (pSh 64 16∧Cn (bLe 256 (iShr x 16)) (pSh 64 8∧pIn 0 (iSize m250_0) (iWrap .u8 (iShr (iShr x 16) 8))∧iWrap .i64 (iAdd (0+16+8) (sAt m250_0 (iWrap .u8 (iShr (iShr x 16) 8))))=Sp.len64 x) (pIn 0 (iSize m250_0) (iWrap .u8 (iShr x 16))∧iWrap .i64 (iAdd (0+16) (sAt m250_0 (iWrap .u8 (iShr x 16))))=Sp.len64 x)) (Cn (bLe 256 x) (pSh 64 8∧pIn 0 (iSize m250_0) (iWrap .u8 (iShr x 8))∧iWrap .i64 (iAdd (0+8) (sAt m250_0 (iWrap .u8 (iShr x 8))))=Sp.len64 x) (pIn 0 (iSize m250_0) (iWrap .u8 x)∧iWrap .i64 (iAdd 0 (sAt m250_0 (iWrap .u8 x)))=Sp.len64 x))):=by
 intro hw hp
 simp only[Cn_iff,Sm_iff,true_and]
 simp only[Wfs,Wf,InR,and_true]at hw
 have T:∀v:Int,0≤v→v≤255→sAt (m250_0) v=Sp.len64 v∧pIn 0 (iSize (m250_0)) v:=fun v h0 h1=>by
  have t:∀n:Fin 256,sAt (m250_0) ((n.val:Nat):Int)=Sp.len64 ((n.val:Nat):Int):=by decide+kernel
  have s:iSize (m250_0)=256:=by decide+kernel
  refine⟨?_,h0,by rw[s]; omega⟩
  have:=t ⟨v.toNat,by omega⟩
  simp only[Int.toNat_of_nonneg h0]at this
  exact this
 generalize (m250_0:ByteArray)=tb at T ⊢
 have W8:∀e:Int,0≤e→e≤255→iWrap .u8 e=e:=fun e h0 h1=>InR.wrap (by simp only[InR]; omega)
 have B:∀v:Int,0≤v→v≤255→0≤Sp.len64 v∧Sp.len64 v≤64:=fun v h0 h1=>by
  by_cases hv:v=0
  · subst hv; decide
  · have:=Sp.len64_bd (y:=v) (by omega) (by omega); omega
 have W64:∀c v:Int,0≤v→v≤255→0≤c→c≤1000→iWrap .i64 (c+Sp.len64 v)=c+Sp.len64 v:=fun c v h0 h1 h2 h3=>InR.wrap (by have:=B v h0 h1; simp only[InR]; omega)
 have U32:4294967296≤x→Sp.len64 x=32+Sp.len64 (x/4294967296):=fun h=>Sp.len64_up 32 h
 have U16:∀v:Int,65536≤v→Sp.len64 v=16+Sp.len64 (v/65536):=fun v h=>Sp.len64_up 16 h
 have U8:∀v:Int,256≤v→Sp.len64 v=8+Sp.len64 (v/256):=fun v h=>Sp.len64_up 8 h
 have u1:=U16 x
 have u2:=U16 (x/4294967296)
 have u3:=U8 x
 have u4:=U8 (x/4294967296)
 have u5:=U8 (x/65536)
 have u6:=U8 (x/4294967296/65536)
 have S16:∀v:Int,iShr v 16=v/65536:=fun v=>Int.fdiv_eq_ediv_of_nonneg _ (by decide)
 have S8:∀v:Int,iShr v 8=v/256:=fun v=>Int.fdiv_eq_ediv_of_nonneg _ (by decide)
 have c32:pSh 64 32:=by decide
 have c16:pSh 64 16:=by decide
 have c8:pSh 64 8:=by decide
 simp only[Sp.shr32,S16,S8,D,E]
 repeat' (first|assumption|apply And.intro|intro _)
 all_goals (first|trivial|(rw[W8 _ (by omega) (by omega)]; exact(T _ (by omega) (by omega)).2.1)|(rw[W8 _ (by omega) (by omega)]; exact(T _ (by omega) (by omega)).2.2)|skip)
 all_goals
  rw[W8 _ (by omega) (by omega),(T _ (by omega) (by omega)).1]
  rw[W64 _ _ (by omega) (by omega) (by omega) (by omega)]
  omega
def r250:Cr PR:=Kw (fun _=>true) [] 250 6 {ps:=[(false,[.int .u64])],rs:=[(false,hI)],pre:=fun _=>True,out:=fun a=>[[.i (Sp.len64 (I a 0 0))]]} U fun a=>Y (v250 (I a 0 0))
end Go.Sx
namespace Go.Sx
theorem v204 (x:Int):InR .u64 x→True→True∧(InR .i64 (Sp.len64 x)→iWrap .i64 (iSub 64 (Sp.len64 x))=64-Sp.len64 x):=by
 intro hw hp
 simp only[Wfs,Wf,InR,and_true]at hw
 refine⟨trivial,fun h=> ?_⟩
 have B:0≤Sp.len64 x∧Sp.len64 x≤64:=by
  by_cases hv:x=0
  · subst hv; decide
  · have:=Sp.len64_bd (y:=x) (by omega) (by omega); omega
 exact InR.wrap (by simp only[InR,iSub]; omega)
def r204:Cr PR:=Kw (fun _=>true) [r250] 204 6 {ps:=[(false,[.int .u64])],rs:=[(false,hI)],pre:=fun _=>True,out:=fun a=>[[.i (64-Sp.len64 (I a 0 0))]]} U fun a=>Y (v204 (I a 0 0))
end Go.Sx
namespace Go.Sx
def A140 (h:Int) (l:Int) (y:Int):FuncId→Nat→LoopAnn:=fun _ i=>bif Nat.beq i 17 then .inv (Int×Int) (fun x=>Sp.dig (Sp.dU h l y) (Sp.dB l y/4294967296) (Sp.dD y) x.1 x.2) (fun x=>[(15,.int .u64 x.1),(16,.int .u64 x.2)]) (fun _=>[]) [] [0,1,2,6,7,8,9,10,11,12,13,14,15,16,17,18,20,24,27,78,85,113,120] (fun x=>x.1.toNat)else bif Nat.beq i 24 then .inv (Int×Int) (fun x=>Sp.dig (Sp.a1 h l y) (Sp.dB l y % 4294967296) (Sp.dD y) x.1 x.2) (fun x=>[(18,.int .u64 x.1),(16,.int .u64 x.2)]) (fun _=>[]) [] [0,1,2,6,7,8,9,10,11,12,13,14,15,16,17,18,20,24,27,78,85,113,120] (fun x=>x.1.toNat)else bif Nat.beq i 1000021 then .cut Unit (fun _=>True) (fun _=>[(15,.int .u64 (Sp.q1 h l y))]) (fun _=>[]) [] [0,1,2,6,7,8,9,10,11,12,13,14,15,16,17,18,20,24,27,78,85,113,120]else bif Nat.beq i 1000028 then .cut Unit (fun _=>True) (fun _=>[(18,.int .u64 (Sp.q0 h l y))]) (fun _=>[]) [] [0,1,2,6,7,8,9,10,11,12,13,14,15,16,17,18,20,24,27,78,85,113,120]else .unroll 0
def m140_0 (h:Int) (l:Int) (y:Int) (x:Int×Int):Prop:=Sm h∧Sm l∧Sm (iWrap .u64 (iShl y (iWrap .u64 (64-Sp.len64 y))))∧Sm (iWrap .u64 (64-Sp.len64 y))∧Sm (iShr (iWrap .u64 (iShl y (iWrap .u64 (64-Sp.len64 y)))) 32)∧Sm (iAnd IntKind.u64 (iWrap .u64 (iShl y (iWrap .u64 (64-Sp.len64 y)))) 4294967295)∧Sm (iOr IntKind.u64 (iWrap .u64 (iShl h (iWrap .u64 (64-Sp.len64 y)))) (iShr l (iWrap .u64 (iSub 64 (iWrap .u64 (64-Sp.len64 y))))))∧Sm (iWrap .u64 (iShl l (iWrap .u64 (64-Sp.len64 y))))∧Sm (iShr (iWrap .u64 (iShl l (iWrap .u64 (64-Sp.len64 y)))) 32)∧Sm (iAnd IntKind.u64 (iWrap .u64 (iShl l (iWrap .u64 (64-Sp.len64 y)))) 4294967295)∧Sm (Sp.q1 h l y)∧Sm (iWrap .u64 (iSub (iWrap .u64 (iAdd (iWrap .u64 (iMul (iOr IntKind.u64 (iWrap .u64 (iShl h (iWrap .u64 (64-Sp.len64 y)))) (iShr l (iWrap .u64 (iSub 64 (iWrap .u64 (64-Sp.len64 y)))))) 4294967296)) (iShr (iWrap .u64 (iShl l (iWrap .u64 (64-Sp.len64 y)))) 32))) (iWrap .u64 (iMul (Sp.q1 h l y) (iWrap .u64 (iShl y (iWrap .u64 (64-Sp.len64 y))))))))∧∃(y_1:Int×Int),Sp.dig (Sp.a1 h l y) (Sp.dB l y % 4294967296) (Sp.dD y) y_1.1 y_1.2∧iWrap .u64 (iSub x.1 1)=y_1.1∧iWrap .u64 (iAdd x.2 (iShr (iWrap .u64 (iShl y (iWrap .u64 (64-Sp.len64 y)))) 32))=y_1.2∧nLt y_1.1.toNat x.1.toNat
def m140_1 (h:Int) (l:Int) (y:Int) (x:Int×Int):Prop:=Sm h∧Sm l∧Sm (iWrap .u64 (iShl y (iWrap .u64 (64-Sp.len64 y))))∧Sm (iWrap .u64 (64-Sp.len64 y))∧Sm (iShr (iWrap .u64 (iShl y (iWrap .u64 (64-Sp.len64 y)))) 32)∧Sm (iAnd IntKind.u64 (iWrap .u64 (iShl y (iWrap .u64 (64-Sp.len64 y)))) 4294967295)∧Sm (iOr IntKind.u64 (iWrap .u64 (iShl h (iWrap .u64 (64-Sp.len64 y)))) (iShr l (iWrap .u64 (iSub 64 (iWrap .u64 (64-Sp.len64 y))))))∧Sm (iWrap .u64 (iShl l (iWrap .u64 (64-Sp.len64 y))))∧Sm (iShr (iWrap .u64 (iShl l (iWrap .u64 (64-Sp.len64 y)))) 32)∧Sm (iAnd IntKind.u64 (iWrap .u64 (iShl l (iWrap .u64 (64-Sp.len64 y)))) 4294967295)∧Sm (Sp.q1 h l y)∧Sm (iWrap .u64 (iSub (iWrap .u64 (iAdd (iWrap .u64 (iMul (iOr IntKind.u64 (iWrap .u64 (iShl h (iWrap .u64 (64-Sp.len64 y)))) (iShr l (iWrap .u64 (iSub 64 (iWrap .u64 (64-Sp.len64 y)))))) 4294967296)) (iShr (iWrap .u64 (iShl l (iWrap .u64 (64-Sp.len64 y)))) 32))) (iWrap .u64 (iMul (Sp.q1 h l y) (iWrap .u64 (iShl y (iWrap .u64 (64-Sp.len64 y))))))))∧∃(y_1:Unit),True∧iWrap .u64 (iSub x.1 1)=Sp.q0 h l y
def m140_2 (h:Int) (l:Int) (y:Int) (x:Int×Int):Prop:=Sm h∧Sm l∧Sm (iWrap .u64 (iShl y (iWrap .u64 (64-Sp.len64 y))))∧Sm (iWrap .u64 (64-Sp.len64 y))∧Sm (iShr (iWrap .u64 (iShl y (iWrap .u64 (64-Sp.len64 y)))) 32)∧Sm (iAnd IntKind.u64 (iWrap .u64 (iShl y (iWrap .u64 (64-Sp.len64 y)))) 4294967295)∧Sm (iOr IntKind.u64 (iWrap .u64 (iShl h (iWrap .u64 (64-Sp.len64 y)))) (iShr l (iWrap .u64 (iSub 64 (iWrap .u64 (64-Sp.len64 y))))))∧Sm (iWrap .u64 (iShl l (iWrap .u64 (64-Sp.len64 y))))∧Sm (iShr (iWrap .u64 (iShl l (iWrap .u64 (64-Sp.len64 y)))) 32)∧Sm (iAnd IntKind.u64 (iWrap .u64 (iShl l (iWrap .u64 (64-Sp.len64 y)))) 4294967295)∧∃(y_1:Int×Int),Sp.dig (Sp.dU h l y) (Sp.dB l y/4294967296) (Sp.dD y) y_1.1 y_1.2∧iWrap .u64 (iSub x.1 1)=y_1.1∧iWrap .u64 (iAdd x.2 (iShr (iWrap .u64 (iShl y (iWrap .u64 (64-Sp.len64 y)))) 32))=y_1.2∧nLt y_1.1.toNat x.1.toNat
def m140_3 (h:Int) (l:Int) (y:Int) (x:Int×Int):Prop:=Sm h∧Sm l∧Sm (iWrap .u64 (iShl y (iWrap .u64 (64-Sp.len64 y))))∧Sm (iWrap .u64 (64-Sp.len64 y))∧Sm (iShr (iWrap .u64 (iShl y (iWrap .u64 (64-Sp.len64 y)))) 32)∧Sm (iAnd IntKind.u64 (iWrap .u64 (iShl y (iWrap .u64 (64-Sp.len64 y)))) 4294967295)∧Sm (iOr IntKind.u64 (iWrap .u64 (iShl h (iWrap .u64 (64-Sp.len64 y)))) (iShr l (iWrap .u64 (iSub 64 (iWrap .u64 (64-Sp.len64 y))))))∧Sm (iWrap .u64 (iShl l (iWrap .u64 (64-Sp.len64 y))))∧Sm (iShr (iWrap .u64 (iShl l (iWrap .u64 (64-Sp.len64 y)))) 32)∧Sm (iAnd IntKind.u64 (iWrap .u64 (iShl l (iWrap .u64 (64-Sp.len64 y)))) 4294967295)∧∃(y_1:Unit),True∧iWrap .u64 (iSub x.1 1)=Sp.q1 h l y
theorem v140 (h:Int) (l:Int) (y:Int):InR .u64 h∧InR .u64 l∧InR .u64 y→h<y∧True→Cn (bEq y 0) False (Cn (bLe y h) False (Cn (bEq h 0) (pNe y 0∧pNe y 0∧iWrap .u64 (iQuo l y)=Sp.dv h l y∧iRem l y=Sp.dr h l y) (True∧(InR .i64 (64-Sp.len64 y)→pSh 64 (iWrap .u64 (64-Sp.len64 y))∧pSh 64 32∧pSh 64 (iWrap .u64 (64-Sp.len64 y))∧pSh 64 (iWrap .u64 (iSub 64 (iWrap .u64 (64-Sp.len64 y))))∧pSh 64 (iWrap .u64 (64-Sp.len64 y))∧pSh 64 32∧pNe (iShr (iWrap .u64 (iShl y (iWrap .u64 (64-Sp.len64 y)))) 32) 0∧((∃(x:Int×Int),Sp.dig (Sp.dU h l y) (Sp.dB l y/4294967296) (Sp.dD y) x.1 x.2∧iWrap .u64 (iQuo (iOr IntKind.u64 (iWrap .u64 (iShl h (iWrap .u64 (64-Sp.len64 y)))) (iShr l (iWrap .u64 (iSub 64 (iWrap .u64 (64-Sp.len64 y)))))) (iShr (iWrap .u64 (iShl y (iWrap .u64 (64-Sp.len64 y)))) 32))=x.1∧iWrap .u64 (iSub (iOr IntKind.u64 (iWrap .u64 (iShl h (iWrap .u64 (64-Sp.len64 y)))) (iShr l (iWrap .u64 (iSub 64 (iWrap .u64 (64-Sp.len64 y)))))) (iWrap .u64 (iMul (iWrap .u64 (iQuo (iOr IntKind.u64 (iWrap .u64 (iShl h (iWrap .u64 (64-Sp.len64 y)))) (iShr l (iWrap .u64 (iSub 64 (iWrap .u64 (64-Sp.len64 y)))))) (iShr (iWrap .u64 (iShl y (iWrap .u64 (64-Sp.len64 y)))) 32))) (iShr (iWrap .u64 (iShl y (iWrap .u64 (64-Sp.len64 y)))) 32))))=x.2)∧∀(x:Int×Int),Sp.dig (Sp.dU h l y) (Sp.dB l y/4294967296) (Sp.dD y) x.1 x.2→InR .u64 x.1∧InR .u64 x.2→Cn (bLe 4294967296 x.1) (Cn (bLe 4294967296 (iWrap .u64 (iAdd x.2 (iShr (iWrap .u64 (iShl y (iWrap .u64 (64-Sp.len64 y)))) 32)))) ((m140_3 h l y x)) ((m140_2 h l y x))) (Cn (bLt (iWrap .u64 (iAdd (iWrap .u64 (iMul 4294967296 x.2)) (iShr (iWrap .u64 (iShl l (iWrap .u64 (64-Sp.len64 y)))) 32))) (iWrap .u64 (iMul x.1 (iAnd IntKind.u64 (iWrap .u64 (iShl y (iWrap .u64 (64-Sp.len64 y)))) 4294967295)))) (Cn (bLe 4294967296 (iWrap .u64 (iAdd x.2 (iShr (iWrap .u64 (iShl y (iWrap .u64 (64-Sp.len64 y)))) 32)))) ((m140_3 h l y x)) ((m140_2 h l y x))) (Sm h∧Sm l∧Sm (iWrap .u64 (iShl y (iWrap .u64 (64-Sp.len64 y))))∧Sm (iWrap .u64 (64-Sp.len64 y))∧Sm (iShr (iWrap .u64 (iShl y (iWrap .u64 (64-Sp.len64 y)))) 32)∧Sm (iAnd IntKind.u64 (iWrap .u64 (iShl y (iWrap .u64 (64-Sp.len64 y)))) 4294967295)∧Sm (iOr IntKind.u64 (iWrap .u64 (iShl h (iWrap .u64 (64-Sp.len64 y)))) (iShr l (iWrap .u64 (iSub 64 (iWrap .u64 (64-Sp.len64 y))))))∧Sm (iWrap .u64 (iShl l (iWrap .u64 (64-Sp.len64 y))))∧Sm (iShr (iWrap .u64 (iShl l (iWrap .u64 (64-Sp.len64 y)))) 32)∧Sm (iAnd IntKind.u64 (iWrap .u64 (iShl l (iWrap .u64 (64-Sp.len64 y)))) 4294967295)∧∃(y_1:Unit),True∧x.1=Sp.q1 h l y)))∧∀(x:Unit),True→InR .u64 (Sp.q1 h l y)→pNe (iShr (iWrap .u64 (iShl y (iWrap .u64 (64-Sp.len64 y)))) 32) 0∧((∃(x:Int×Int),Sp.dig (Sp.a1 h l y) (Sp.dB l y % 4294967296) (Sp.dD y) x.1 x.2∧iWrap .u64 (iQuo (iWrap .u64 (iSub (iWrap .u64 (iAdd (iWrap .u64 (iMul (iOr IntKind.u64 (iWrap .u64 (iShl h (iWrap .u64 (64-Sp.len64 y)))) (iShr l (iWrap .u64 (iSub 64 (iWrap .u64 (64-Sp.len64 y)))))) 4294967296)) (iShr (iWrap .u64 (iShl l (iWrap .u64 (64-Sp.len64 y)))) 32))) (iWrap .u64 (iMul (Sp.q1 h l y) (iWrap .u64 (iShl y (iWrap .u64 (64-Sp.len64 y)))))))) (iShr (iWrap .u64 (iShl y (iWrap .u64 (64-Sp.len64 y)))) 32))=x.1∧iWrap .u64 (iSub (iWrap .u64 (iSub (iWrap .u64 (iAdd (iWrap .u64 (iMul (iOr IntKind.u64 (iWrap .u64 (iShl h (iWrap .u64 (64-Sp.len64 y)))) (iShr l (iWrap .u64 (iSub 64 (iWrap .u64 (64-Sp.len64 y)))))) 4294967296)) (iShr (iWrap .u64 (iShl l (iWrap .u64 (64-Sp.len64 y)))) 32))) (iWrap .u64 (iMul (Sp.q1 h l y) (iWrap .u64 (iShl y (iWrap .u64 (64-Sp.len64 y)))))))) (iWrap .u64 (iMul (iWrap .u64 (iQuo (iWrap .u64 (iSub (iWrap .u64 (iAdd (iWrap .u64 (iMul (iOr IntKind.u64 (iWrap .u64 (iShl h (iWrap .u64 (64-Sp.len64 y)))) (iShr l (iWrap .u64 (iSub 64 (iWrap .u64 (64-Sp.len64 y)))))) 4294967296)) (iShr (iWrap .u64 (iShl l (iWrap .u64 (64-Sp.len64 y)))) 32))) (iWrap .u64 (iMul (Sp.q1 h l y) (iWrap .u64 (iShl y (iWrap .u64 (64-Sp.len64 y)))))))) (iShr (iWrap .u64 (iShl y (iWrap .u64 (64-Sp.len64 y)))) 32))) (iShr (iWrap .u64 (iShl y (iWrap .u64 (64-Sp.len64 y)))) 32))))=x.2)∧∀(x:Int×Int),Sp.dig (Sp.a1 h l y) (Sp.dB l y % 4294967296) (Sp.dD y) x.1 x.2→InR .u64 x.1∧InR .u64 x.2→Cn (bLe 4294967296 x.1) (Cn (bLe 4294967296 (iWrap .u64 (iAdd x.2 (iShr (iWrap .u64 (iShl y (iWrap .u64 (64-Sp.len64 y)))) 32)))) ((m140_1 h l y x)) ((m140_0 h l y x))) (Cn (bLt (iWrap .u64 (iAdd (iWrap .u64 (iMul 4294967296 x.2)) (iAnd IntKind.u64 (iWrap .u64 (iShl l (iWrap .u64 (64-Sp.len64 y)))) 4294967295))) (iWrap .u64 (iMul x.1 (iAnd IntKind.u64 (iWrap .u64 (iShl y (iWrap .u64 (64-Sp.len64 y)))) 4294967295)))) (Cn (bLe 4294967296 (iWrap .u64 (iAdd x.2 (iShr (iWrap .u64 (iShl y (iWrap .u64 (64-Sp.len64 y)))) 32)))) ((m140_1 h l y x)) ((m140_0 h l y x))) (Sm h∧Sm l∧Sm (iWrap .u64 (iShl y (iWrap .u64 (64-Sp.len64 y))))∧Sm (iWrap .u64 (64-Sp.len64 y))∧Sm (iShr (iWrap .u64 (iShl y (iWrap .u64 (64-Sp.len64 y)))) 32)∧Sm (iAnd IntKind.u64 (iWrap .u64 (iShl y (iWrap .u64 (64-Sp.len64 y)))) 4294967295)∧Sm (iOr IntKind.u64 (iWrap .u64 (iShl h (iWrap .u64 (64-Sp.len64 y)))) (iShr l (iWrap .u64 (iSub 64 (iWrap .u64 (64-Sp.len64 y))))))∧Sm (iWrap .u64 (iShl l (iWrap .u64 (64-Sp.len64 y))))∧Sm (iShr (iWrap .u64 (iShl l (iWrap .u64 (64-Sp.len64 y)))) 32)∧Sm (iAnd IntKind.u64 (iWrap .u64 (iShl l (iWrap .u64 (64-Sp.len64 y)))) 4294967295)∧Sm (Sp.q1 h l y)∧Sm (iWrap .u64 (iSub (iWrap .u64 (iAdd (iWrap .u64 (iMul (iOr IntKind.u64 (iWrap .u64 (iShl h (iWrap .u64 (64-Sp.len64 y)))) (iShr l (iWrap .u64 (iSub 64 (iWrap .u64 (64-Sp.len64 y)))))) 4294967296)) (iShr (iWrap .u64 (iShl l (iWrap .u64 (64-Sp.len64 y)))) 32))) (iWrap .u64 (iMul (Sp.q1 h l y) (iWrap .u64 (iShl y (iWrap .u64 (64-Sp.len64 y))))))))∧∃(y_1:Unit),True∧x.1=Sp.q0 h l y)))∧∀(x:Unit),True→InR .u64 (Sp.q0 h l y)→pSh 64 (iWrap .u64 (64-Sp.len64 y))∧iWrap .u64 (iAdd (iWrap .u64 (iMul (Sp.q1 h l y) 4294967296)) (Sp.q0 h l y))=Sp.dv h l y∧iShr (iWrap .u64 (iSub (iWrap .u64 (iAdd (iWrap .u64 (iMul (iWrap .u64 (iSub (iWrap .u64 (iAdd (iWrap .u64 (iMul (iOr IntKind.u64 (iWrap .u64 (iShl h (iWrap .u64 (64-Sp.len64 y)))) (iShr l (iWrap .u64 (iSub 64 (iWrap .u64 (64-Sp.len64 y)))))) 4294967296)) (iShr (iWrap .u64 (iShl l (iWrap .u64 (64-Sp.len64 y)))) 32))) (iWrap .u64 (iMul (Sp.q1 h l y) (iWrap .u64 (iShl y (iWrap .u64 (64-Sp.len64 y)))))))) 4294967296)) (iAnd IntKind.u64 (iWrap .u64 (iShl l (iWrap .u64 (64-Sp.len64 y)))) 4294967295))) (iWrap .u64 (iMul (Sp.q0 h l y) (iWrap .u64 (iShl y (iWrap .u64 (64-Sp.len64 y)))))))) (iWrap .u64 (64-Sp.len64 y))=Sp.dr h l y)))):=by
 intro hw hp
 delta m140_0 m140_1 m140_2 m140_3
 simp only[Cn_iff,Sm_iff,true_and]
 simp only[Wfs,Wf,InR,and_true]at hw
 have F:=Sp.div_facts (h:=h) (l:=l) (y:=y) (by omega) (by omega) (by omega) (by omega) hp.1
 have W:∀e:Int,0≤e→e≤18446744073709551615→iWrap .u64 e=e:=fun e h0 h1=>Sp.wrap64 h0 h1
 have c32:pSh 64 32:=by decide
 have cS:pSh 64 (64-Sp.len64 y):=⟨F.s0,by have:=F.s1; have:=F.s0; omega⟩
 have cT:pSh 64 (64- (64-Sp.len64 y)):=⟨by have:=F.s1; omega,by have:=F.s1; have:=F.s0; omega⟩
 have s5:=F.d0
 have s6:=F.d1
 have s7:=F.u0
 have s8:=F.u1
 have s9:=F.b0
 have s10:=F.b1
 have hsh:iShl y (64-Sp.len64 y)=y*Sp.dP y:=rfl
 refine⟨fun hy=> ?_,fun _=>⟨fun hy=> ?_,fun _=>⟨fun h0=>⟨?_,?_,?_,?_⟩,fun h0=>fun _=> ?_⟩⟩⟩
 · simp only[bEq,decide_eq_true_eq]at hy; omega
 · simp only[bLe,decide_eq_true_eq]at hy; omega
 · show y≠0; omega
 · show y≠0; omega
 · simp only[bEq,decide_eq_true_eq]at h0
   subst h0
   have:=Int.ediv_nonneg (a:=l) (b:=y) (by omega) (by omega)
   have:=Int.ediv_le_self (a:=l) y (by omega)
   have e:iQuo l y=l/y:=Int.tdiv_eq_ediv_of_nonneg (by omega)
   rw[e,W _ (by omega) (by omega)]
   simp[Sp.dv]
 · simp only[bEq,decide_eq_true_eq]at h0
   subst h0
   show l.tmod y=_
   rw[Int.tmod_eq_emod_of_nonneg (by omega)]
   simp[Sp.dr]
 rw[F.e0,F.e2,F.e4,F.e1,F.e3,Sp.shr32 (Sp.dD y),Sp.shr32 (Sp.dB l y)]
 rw[Sp.and32 (x:=Sp.dD y) (by omega) (by omega),Sp.and32 (x:=Sp.dB l y) (by omega) (by omega)]
 have q1':Sp.q1 h l y=(Sp.dU h l y*4294967296+Sp.dB l y/4294967296)/Sp.dD y:=rfl
 have a1':Sp.a1 h l y=Sp.dU h l y*4294967296+Sp.dB l y/4294967296-Sp.q1 h l y*Sp.dD y:=rfl
 have q0':Sp.q0 h l y=(Sp.a1 h l y*4294967296+Sp.dB l y % 4294967296)/Sp.dD y:=rfl
 have eq:=F.eq
 have p0:=F.p0
 have dD:Sp.dD y=y*Sp.dP y:=rfl
 have tl:=Sp.quo_rest (N:=Sp.dU h l y*4294967296+Sp.dB l y/4294967296) (D:=Sp.dD y) (by omega)
 rw[←q1',←a1']at tl
 have tm:=Sp.quo_rest (N:=Sp.a1 h l y*4294967296+Sp.dB l y % 4294967296) (D:=Sp.dD y) (by omega)
 rw[←q0']at tm
 have i1:=Sp.Digit.init (a:=Sp.dU h l y) (u:=Sp.dB l y/4294967296) (D:=Sp.dD y) (by omega) (by omega) (by omega) (by omega) (by omega) (by omega)
 have i2:=Sp.Digit.init (a:=Sp.a1 h l y) (u:=Sp.dB l y % 4294967296) (D:=Sp.dD y) (by omega) (by omega) (by omega) (by omega) (by omega) (by omega)
 have v1:2147483648≤Sp.dD y/4294967296:=by omega
 have Q1:0≤Sp.q1 h l y∧Sp.q1 h l y<4294967296:=⟨by rw[q1']; exact Int.ediv_nonneg (by omega) (by omega),by rw[q1']; exact Sp.quo_small (by omega) (by omega) (by omega)⟩
 have Q0:0≤Sp.q0 h l y∧Sp.q0 h l y<4294967296:=⟨by rw[q0']; exact Int.ediv_nonneg (by omega) (by omega),by rw[q0']; exact Sp.quo_small (by omega) (by omega) (by omega)⟩
 have digit:∀a u:Int,0≤a→a<Sp.dD y→0≤u→u<4294967296→∀Q:Int,Q=(a*4294967296+u)/Sp.dD y→∀x:Int×Int,Sp.dig a u (Sp.dD y) x.1 x.2→
  iWrap .u64 (iAdd (iWrap .u64 (iMul 4294967296 x.2)) u)=4294967296*x.2+u∧iWrap .u64 (iMul x.1 (Sp.dD y % 4294967296))=x.1*(Sp.dD y % 4294967296)∧
  (x.1<4294967296→¬4294967296*x.2+u<x.1*(Sp.dD y % 4294967296)→x.1=Q)∧
  (4294967296≤x.1∨4294967296*x.2+u<x.1*(Sp.dD y % 4294967296)→iWrap .u64 (iSub x.1 1)=x.1-1∧iWrap .u64 (iAdd x.2 (Sp.dD y/4294967296))=x.2+Sp.dD y/4294967296∧1≤x.1∧
   (x.2+Sp.dD y/4294967296<4294967296→Sp.dig a u (Sp.dD y) (x.1-1) (x.2+Sp.dD y/4294967296))∧(4294967296≤x.2+Sp.dD y/4294967296→x.1-1=Q)):=by
  intro a u ha ha' hu hu' Q hQ x hd
  have hd':Sp.Digit a u (Sp.dD y) x.1 x.2:=hd
  have b1:=hd'.bd s5 s6
  have b2:=hd'.r0
  have b3:=hd'.r1
  have b4:=hd'.q1
  refine⟨?_,W _ b1.1 b1.2,fun h1 h2=>by rw[hQ]; exact hd'.stop (by omega) (by omega),fun hc=> ?_⟩
  · rw[W (iMul 4294967296 x.2) (by simp only[iMul]; omega) (by simp only[iMul]; omega)]
    exact W _ (by simp only[iAdd,iMul]; omega) (by simp only[iAdd,iMul]; omega)
  · have d:=hd'.dec s5 s6 ha ha' hu hu' hc
    exact⟨W _ (by simp only[iSub]; omega) (by simp only[iSub]; omega),W _ d.2.1 d.2.2.1,d.1,fun h=>d.2.2.2.1 h,fun h=>by rw[hQ]; exact d.2.2.2.2 h⟩
 have D1:=digit (Sp.dU h l y) (Sp.dB l y/4294967296) (by omega) (by omega) (by omega) (by omega) (Sp.q1 h l y) q1'
 have D0:=digit (Sp.a1 h l y) (Sp.dB l y % 4294967296) (by omega) (by omega) (by omega) (by omega) (Sp.q0 h l y) q0'
 clear digit
 have A1:iWrap .u64 (iSub (iWrap .u64 (iAdd (iWrap .u64 (iMul (Sp.dU h l y) 4294967296)) (Sp.dB l y/4294967296))) (iWrap .u64 (iMul (Sp.q1 h l y) (Sp.dD y))))=Sp.a1 h l y:=by
  simp only[iAdd,iSub,iMul,Sp.wrap64m]
  omega
 have A0:iWrap .u64 (iSub (iWrap .u64 (iAdd (iWrap .u64 (iMul (Sp.a1 h l y) 4294967296)) (Sp.dB l y % 4294967296))) (iWrap .u64 (iMul (Sp.q0 h l y) (Sp.dD y))))=Sp.a1 h l y*4294967296+Sp.dB l y % 4294967296-Sp.q0 h l y*Sp.dD y:=by
  simp only[iAdd,iSub,iMul,Sp.wrap64m]
  omega
 have ini:∀a u:Int,0≤a→a<Sp.dD y→Sp.Digit a u (Sp.dD y) (a/(Sp.dD y/4294967296)) (a-a/(Sp.dD y/4294967296)*(Sp.dD y/4294967296))→
  iWrap .u64 (iQuo a (Sp.dD y/4294967296))=a/(Sp.dD y/4294967296)∧iWrap .u64 (iSub a (iWrap .u64 (iMul (a/(Sp.dD y/4294967296)) (Sp.dD y/4294967296))))=a-a/(Sp.dD y/4294967296)*(Sp.dD y/4294967296):=by
  intro a u h0 h1 hd
  have b2:=hd.r0
  have b3:=hd.q0
  have b4:=hd.q1
  have b5:=Int.mul_nonneg b3 (show 0≤Sp.dD y/4294967296 by omega)
  have e:iQuo a (Sp.dD y/4294967296)=a/(Sp.dD y/4294967296):=Int.tdiv_eq_ediv_of_nonneg h0
  refine⟨by rw[e]; exact W _ b3 (by omega),?_⟩
  rw[W (iMul _ _) b5 (by simp only[iMul]; omega)]
  exact W _ (by simp only[iSub,iMul]; omega) (by simp only[iSub,iMul]; omega)
 have I1:=ini _ _ s7 s8 i1
 have I0:=ini _ _ tl.1 tl.2 i2
 clear ini
 rw[A1]
 rw[I1.1,I1.2,I0.1,I0.2]
 refine⟨cS,c32,cS,cT,cS,c32,by show Sp.dD y/4294967296≠0; omega,⟨⟨(_,_),i1,rfl,rfl⟩,fun x hx _=> ?_⟩,fun _ _ _=>⟨by show Sp.dD y/4294967296≠0; omega,⟨⟨(_,_),i2,rfl,rfl⟩,fun x hx _=> ?_⟩,fun _ _ _=> ?_⟩⟩
 · have d:=D1 x hx
   rw[d.1,d.2.1]
   simp only[bLe,bLt,decide_eq_true_eq,decide_eq_false_iff_not]
   refine⟨fun h1=> ?_,fun h1=>⟨fun h2=> ?_,fun h2=> ?_⟩⟩
   rotate_left
   · obtain⟨e1,e2,e3,e4,e5⟩:=d.2.2.2 (.inr h2)
     rw[e1,e2]
     exact⟨fun h3=>⟨(),e5 h3⟩,fun h3=>⟨(_,_),e4 (by omega),rfl,rfl,by simp only; omega⟩⟩
   · exact⟨(),d.2.2.1 (by omega) h2⟩
   · obtain⟨e1,e2,e3,e4,e5⟩:=d.2.2.2 (.inl h1)
     rw[e1,e2]
     exact⟨fun h3=>⟨(),e5 h3⟩,fun h3=>⟨(_,_),e4 (by omega),rfl,rfl,by simp only; omega⟩⟩
 · have d:=D0 x hx
   rw[d.1,d.2.1]
   simp only[bLe,bLt,decide_eq_true_eq,decide_eq_false_iff_not]
   refine⟨fun h1=> ?_,fun h1=>⟨fun h2=> ?_,fun h2=> ?_⟩⟩
   rotate_left
   · obtain⟨e1,e2,e3,e4,e5⟩:=d.2.2.2 (.inr h2)
     rw[e1,e2]
     exact⟨fun h3=>⟨(),e5 h3⟩,fun h3=>⟨(_,_),e4 (by omega),rfl,rfl,by simp only; omega⟩⟩
   · exact⟨(),d.2.2.1 (by omega) h2⟩
   · obtain⟨e1,e2,e3,e4,e5⟩:=d.2.2.2 (.inl h1)
     rw[e1,e2]
     exact⟨fun h3=>⟨(),e5 h3⟩,fun h3=>⟨(_,_),e4 (by omega),rfl,rfl,by simp only; omega⟩⟩
 · rw[A0]
   have sh:∀R:Int,iShr R (64-Sp.len64 y)=R/Sp.dP y:=fun R=>Int.fdiv_eq_ediv_of_nonneg _ (by show 0≤Sp.dP y; omega)
   have fin:=Sp.div_fin (H:=h*18446744073709551616+l) (y:=y) (p:=Sp.dP y) (Q:=Sp.q1 h l y*4294967296+Sp.q0 h l y) (R:=Sp.a1 h l y*4294967296+Sp.dB l y % 4294967296-Sp.q0 h l y*Sp.dD y) p0 (by omega)
    (by rw[eq,←dD,Int.add_mul,Int.mul_right_comm (Sp.q1 h l y)]; omega) tm.1 (by rw[←dD]; exact tm.2)
   refine⟨cS,?_,?_⟩
   · rw[W (iMul _ _) (by simp only[iMul]; omega) (by simp only[iMul]; omega),W _ (by simp only[iAdd,iMul]; omega) (by simp only[iAdd,iMul]; omega)]
     exact fin.1.symm
   · rw[sh]
     exact fin.2.symm
def r140:Cr PR:=Kw (fun _=>true) [r204] 140 6 {ps:=[(false,[.int .u64]),(false,[.int .u64]),(false,[.int .u64])],rs:=[(false,[.int .u64]),(false,[.int .u64])],pre:=fun a=>(I a 0 0)<(I a 2 0)∧True,out:=fun a=>[[.i (Sp.dv (I a 0 0) (I a 1 0) (I a 2 0))],[.i (Sp.dr (I a 0 0) (I a 1 0) (I a 2 0))]]} (fun a=>A140 (I a 0 0) (I a 1 0) (I a 2 0)) fun a=>Y (v140 (I a 0 0) (I a 1 0) (I a 2 0))
end Go.Sx

set_option linter.unusedVariables false
set_option linter.unusedSimpArgs false
set_option maxRecDepth 100000
set_option maxHeartbeats 4000000
namespace Go
open Go.Sx
def Sp.ab (n:Int):Int:=if n<0 then-n else n
def Sp.flo (n a b:Int):Int:=n*a/b
def Sp.res (n a b:Int):Int:=n*a % b
def Sp.cei (n a b:Int):Int:= -(-n*a/b)
def Sp.quo (n a b:Int):Int:=Sp.ab n*a/b
def Sp.inr (v:Int):Bool:=decide (-4611686018427387904≤v∧v≤4611686018427387904)
def Sp.okq (n a b:Int):Bool:=decide (Sp.quo n a b≤4611686018427387904)
def Sp.dF (n a b:Int):Int:=bif Sp.okq n a b then Sp.flo n a b else 0
def Sp.dR (n a b:Int):Int:=bif Sp.okq n a b then Sp.res n a b else 0
def Sp.eF (n a b:Int):Int:=bif Sp.inr (Sp.flo n a b)then Sp.flo n a b else 0
def Sp.eR (n a b:Int):Int:=bif Sp.inr (Sp.flo n a b)then Sp.res n a b else 0
def Sp.chk (n a b:Int):Int:=if Sp.rvalid a b=false then 1 else if n< -1125899906842624∨1125899906842624<n then 2 else 0
def Sp.floE (n a b:Int):Int:=if Sp.chk n a b≠0 then Sp.chk n a b else bif Sp.inr (Sp.flo n a b)then 0 else 2
def Sp.floV (n a b:Int):Int:=if Sp.floE n a b=0 then Sp.flo n a b else 0
def Sp.resV (n a b:Int):Int:=if Sp.floE n a b=0 then Sp.res n a b else 0
def Sp.ceiE (n a b:Int):Int:=if Sp.chk n a b≠0 then Sp.chk n a b else bif Sp.inr (Sp.cei n a b)then 0 else 2
def Sp.ceiV (n a b:Int):Int:=if Sp.ceiE n a b=0 then Sp.cei n a b else 0
end Go
namespace Go
open Go.Sx
theorem Sp.neg_div {m b:Int} (hb:1≤b):(m % b=0→-m/b= -(m/b)∧-m % b=0)∧(m % b≠0→-m/b= -(m/b)-1∧-m % b=b-m % b):=by
 have d1:=Int.emod_add_mul_ediv m b
 have d2:=Int.emod_nonneg m (show b≠0 by omega)
 have d3:=Int.emod_lt_of_pos m (show 0<b by omega)
 constructor
 · intro h
   have:=(Int.ediv_emod_unique (a:= -m) (b:=b) (r:=0) (q:= -(m/b)) (by omega)).2 ⟨by rw[Int.mul_neg]; omega,by omega,by omega⟩
   exact this
 · intro h
   have:=(Int.ediv_emod_unique (a:= -m) (b:=b) (r:=b-m % b) (q:= -(m/b)-1) (by omega)).2 ⟨by rw[Int.mul_sub,Int.mul_neg]; omega,by omega,by omega⟩
   exact this
theorem Sp.dv_mul (x y b:Int):Sp.dv (Sp.mhi x y) (Sp.mlo x y) b=x*y/b∧Sp.dr (Sp.mhi x y) (Sp.mlo x y) b=x*y % b:=by
 have e:Sp.mhi x y*18446744073709551616+Sp.mlo x y=x*y:=by unfold Sp.mhi Sp.mlo; omega
 unfold Sp.dv Sp.dr
 rw[e]; exact⟨rfl,rfl⟩
structure Sp.Fl (n a b:Int):Prop where
 q0:0≤Sp.quo n a b
 m0:0≤Sp.ab n*a
 m1:Sp.ab n*a≤77371252455336267181195264
 r0:0≤Sp.ab n*a % b
 r1:Sp.ab n*a % b<b
 qe:Sp.ab n*a/b=Sp.quo n a b
 hi0:0≤Sp.mhi (Sp.ab n) a
 hi:b≤Sp.mhi (Sp.ab n) a→4611686018427387904<Sp.quo n a b
 pos:0≤n→Sp.flo n a b=Sp.quo n a b∧Sp.res n a b=Sp.ab n*a % b
 neg0:n<0→Sp.ab n*a % b=0→Sp.flo n a b= -(Sp.quo n a b)∧Sp.res n a b=0
 neg1:n<0→Sp.ab n*a % b≠0→Sp.flo n a b= -(Sp.quo n a b)-1∧Sp.res n a b=b-Sp.ab n*a % b
theorem Sp.fl {n a b:Int} (h:1≤a∧a≤68719476736∧1≤b∧b≤68719476736∧-1125899906842624≤n∧n≤1125899906842624):Sp.Fl n a b:=by
 have hab:0≤Sp.ab n∧Sp.ab n≤1125899906842624:=by unfold Sp.ab; split<;>omega
 have m:=mul_bd (x:=Sp.ab n) (X:=1125899906842624) (y:=a) (Y:=68719476736) hab.1 hab.2 (by omega) (by omega)
 have nd:=Sp.neg_div (m:=Sp.ab n*a) (b:=b) (by omega)
 have en:n<0→n*a= -(Sp.ab n*a):=fun hn=>by unfold Sp.ab; rw[if_pos hn,Int.neg_mul,Int.neg_neg]
 have ep:0≤n→n*a=Sp.ab n*a:=fun hn=>by unfold Sp.ab; rw[if_neg (by omega)]
 refine⟨Int.ediv_nonneg m.1 (by omega),m.1,by omega,Int.emod_nonneg _ (by omega),Int.emod_lt_of_pos _ (by omega),rfl,Int.ediv_nonneg m.1 (by omega),fun hb=> ?_,fun hn=> ?_,fun hn hr=> ?_,fun hn hr=> ?_⟩
 · have:b*18446744073709551616≤Sp.ab n*a:=by unfold Sp.mhi at hb; omega
   have:=Sp.quo_le (N:=Sp.ab n*a) (D:=b) (q:=18446744073709551616) (by omega) (by omega)
   show _<Sp.ab n*a/b
   omega
 · unfold Sp.flo Sp.res Sp.quo; rw[ep hn]; exact⟨rfl,rfl⟩
 · unfold Sp.flo Sp.res Sp.quo; rw[en hn]; exact nd.1 hr
 · unfold Sp.flo Sp.res Sp.quo; rw[en hn]; exact nd.2 hr
theorem Sp.ab_wrap {n:Int} (h: -9223372036854775808≤n∧n≤9223372036854775807):(n<0→iWrap .u64 (iSub 0 (iWrap .u64 n))=Sp.ab n)∧(0≤n→iWrap .u64 n=Sp.ab n):=by
 unfold Sp.ab
 constructor
 · intro hn; rw[if_pos hn]; simp only[Sp.wrap64m,iSub]; omega
 · intro hn; rw[if_neg (by omega)]; simp only[Sp.wrap64m]; omega
theorem Sp.wrapi {e:Int} (h0: -9223372036854775808≤e) (h1:e≤9223372036854775807):iWrap .i64 e=e:=InR.wrap (by simp only[InR]; omega)
theorem Sp.rvalid_of {a b:Int} (h:Sp.rvalid a b=true):1≤a∧a≤68719476736∧1≤b∧b≤68719476736∧Sp.gcd a b=1:=by
 unfold Sp.rvalid at h; simp only[decide_eq_true_eq]at h; omega
end Go
namespace Go.Sx
def m146_0 (n:Int) (a:Int):Int:=(Sp.mhi (iWrap .u64 (iSub 0 (iWrap .u64 n))) (iWrap .u64 a))
def m146_1 (n:Int) (a:Int):Int:=(Sp.mlo (iWrap .u64 (iSub 0 (iWrap .u64 n))) (iWrap .u64 a))
def m146_2 (n:Int) (a:Int) (b:Int):Int:=(Sp.dv (Sp.mhi (iWrap .u64 n) (iWrap .u64 a)) (Sp.mlo (iWrap .u64 n) (iWrap .u64 a)) (iWrap .u64 b))
def m146_3 (n:Int) (a:Int) (b:Int):Int:=(Sp.dr (Sp.mhi (iWrap .u64 n) (iWrap .u64 a)) (Sp.mlo (iWrap .u64 n) (iWrap .u64 a)) (iWrap .u64 b))
def m146_4 (n:Int) (a:Int) (b:Int):Prop:=0=Sp.dF n a b∧0=Sp.dR n a b∧false=Sp.okq n a b
def m146_5 (n:Int) (a:Int) (b:Int):Int:=(Sp.dv (m146_0 n a) (m146_1 n a) (iWrap .u64 b))
def m146_6 (n:Int) (a:Int) (b:Int):Int:=(Sp.dr (m146_0 n a) (m146_1 n a) (iWrap .u64 b))
theorem v146 (n:Int) (a:Int) (b:Int):InR .i64 n∧InR .i64 a∧InR .i64 b→1≤a∧a≤68719476736∧1≤b∧b≤68719476736∧-1125899906842624≤n∧n≤1125899906842624→Cn (bLt n 0) (True∧(InR .u64 (m146_0 n a)∧InR .u64 (m146_1 n a)→Cn (bLe (iWrap .u64 b) (m146_0 n a)) ((m146_4 n a b)) ((Sp.mhi (iWrap .u64 (iSub 0 (iWrap .u64 n))) (iWrap .u64 a)<iWrap .u64 b∧True)∧(InR .u64 (m146_5 n a b)∧InR .u64 (m146_6 n a b)→Cn (bLt 4611686018427387904 (m146_5 n a b)) ((m146_4 n a b)) (Cn (bLt n 0) (Cn (bLt 0 (iWrap .i64 (m146_6 n a b))) (iWrap .i64 (iSub (iWrap .i64 (iSub 0 (iWrap .i64 (m146_5 n a b)))) 1)=Sp.dF n a b∧iWrap .i64 (iSub b (iWrap .i64 (m146_6 n a b)))=Sp.dR n a b∧true=Sp.okq n a b) (iWrap .i64 (iSub 0 (iWrap .i64 (m146_5 n a b)))=Sp.dF n a b∧iWrap .i64 (m146_6 n a b)=Sp.dR n a b∧true=Sp.okq n a b)) (iWrap .i64 (m146_5 n a b)=Sp.dF n a b∧iWrap .i64 (m146_6 n a b)=Sp.dR n a b∧true=Sp.okq n a b)))))) (True∧(InR .u64 (Sp.mhi (iWrap .u64 n) (iWrap .u64 a))∧InR .u64 (Sp.mlo (iWrap .u64 n) (iWrap .u64 a))→Cn (bLe (iWrap .u64 b) (Sp.mhi (iWrap .u64 n) (iWrap .u64 a))) ((m146_4 n a b)) ((Sp.mhi (iWrap .u64 n) (iWrap .u64 a)<iWrap .u64 b∧True)∧(InR .u64 (m146_2 n a b)∧InR .u64 (m146_3 n a b)→Cn (bLt 4611686018427387904 (m146_2 n a b)) ((m146_4 n a b)) (Cn (bLt n 0) (Cn (bLt 0 (iWrap .i64 (m146_3 n a b))) (iWrap .i64 (iSub (iWrap .i64 (iSub 0 (iWrap .i64 (m146_2 n a b)))) 1)=Sp.dF n a b∧iWrap .i64 (iSub b (iWrap .i64 (m146_3 n a b)))=Sp.dR n a b∧true=Sp.okq n a b) (iWrap .i64 (iSub 0 (iWrap .i64 (m146_2 n a b)))=Sp.dF n a b∧iWrap .i64 (m146_3 n a b)=Sp.dR n a b∧true=Sp.okq n a b)) (iWrap .i64 (m146_2 n a b)=Sp.dF n a b∧iWrap .i64 (m146_3 n a b)=Sp.dR n a b∧true=Sp.okq n a b)))))):=by
 intro hw hp
 delta m146_0 m146_1 m146_2 m146_3 m146_4 m146_5 m146_6
 simp only[Cn_iff,Sm_iff,true_and]
 simp only[Wfs,Wf,InR,and_true]at hw
 have F:=Sp.fl hp
 have A:=Sp.ab_wrap (n:=n) (by omega)
 have wa:iWrap .u64 a=a:=Sp.wrap64 (by omega) (by omega)
 have wb:iWrap .u64 b=b:=Sp.wrap64 (by omega) (by omega)
 rw[wa,wb]
 have hm:=F.hi0
 have k1:=F.q0
 have k2:=F.r0
 have k3:=F.r1
 have k4:=F.hi
 have k5:=F.pos
 have k6:=F.neg0
 have k7:=F.neg1
 have v1:Sp.dv (Sp.mhi (Sp.ab n) a) (Sp.mlo (Sp.ab n) a) b=Sp.quo n a b:=(Sp.dv_mul _ _ _).1
 have v2:Sp.dr (Sp.mhi (Sp.ab n) a) (Sp.mlo (Sp.ab n) a) b=Sp.ab n*a % b:=(Sp.dv_mul _ _ _).2
 have okI:(Sp.quo n a b≤4611686018427387904→Sp.okq n a b=true∧Sp.dF n a b=Sp.flo n a b∧Sp.dR n a b=Sp.res n a b)∧(4611686018427387904<Sp.quo n a b→Sp.okq n a b=false∧Sp.dF n a b=0∧Sp.dR n a b=0):=by
  constructor
  · intro h
    have e:Sp.okq n a b=true:=by unfold Sp.okq; simpa using h
    exact⟨e,by unfold Sp.dF; rw[e]; rfl,by unfold Sp.dR; rw[e]; rfl⟩
  · intro h
    have e:Sp.okq n a b=false:=by unfold Sp.okq; simp; omega
    exact⟨e,by unfold Sp.dF; rw[e]; rfl,by unfold Sp.dR; rw[e]; rfl⟩
 have erI:(-4611686018427387904≤Sp.flo n a b∧Sp.flo n a b≤4611686018427387904→Sp.inr (Sp.flo n a b)=true∧Sp.eF n a b=Sp.flo n a b∧Sp.eR n a b=Sp.res n a b)∧(¬(-4611686018427387904≤Sp.flo n a b∧Sp.flo n a b≤4611686018427387904)→Sp.inr (Sp.flo n a b)=false∧Sp.eF n a b=0∧Sp.eR n a b=0):=by
  constructor
  · intro h
    have e:Sp.inr (Sp.flo n a b)=true:=by unfold Sp.inr; simpa using h
    exact⟨e,by unfold Sp.eF; rw[e]; rfl,by unfold Sp.eR; rw[e]; rfl⟩
  · intro h
    have e:Sp.inr (Sp.flo n a b)=false:=by unfold Sp.inr; simp; omega
    exact⟨e,by unfold Sp.eF; rw[e]; rfl,by unfold Sp.eR; rw[e]; rfl⟩
 have wq:Sp.quo n a b≤4611686018427387904→iWrap .i64 (Sp.quo n a b)=Sp.quo n a b:=fun h=>Sp.wrapi (by omega) (by omega)
 have w0:Sp.quo n a b≤4611686018427387904→iWrap .i64 (iSub 0 (Sp.quo n a b))= -(Sp.quo n a b):=fun h=>by rw[Sp.wrapi (by simp only[iSub]; omega) (by simp only[iSub]; omega)]; simp only[iSub]; omega
 have w1:Sp.quo n a b≤4611686018427387904→iWrap .i64 (iSub (-(Sp.quo n a b)) 1)= -(Sp.quo n a b)-1:=fun h=>Sp.wrapi (by simp only[iSub]; omega) (by simp only[iSub]; omega)
 have wR:iWrap .i64 (Sp.ab n*a % b)=Sp.ab n*a % b:=Sp.wrapi (by omega) (by omega)
 have wbR:iWrap .i64 (iSub b (Sp.ab n*a % b))=b-Sp.ab n*a % b:=Sp.wrapi (by simp only[iSub]; omega) (by simp only[iSub]; omega)
 refine⟨fun h=> ?_,fun h=> ?_⟩
 · simp only[bLt,decide_eq_true_eq]at h
   have hW:=A.1 h
   rw[hW,v1,v2]
   clear v1 v2 hW
   generalize Sp.mhi (Sp.ab n) a=mh at*
   generalize Sp.mlo (Sp.ab n) a=ml at*
   generalize Sp.ab n*a % b=R at*
   generalize Sp.quo n a b=Q at*
   generalize Sp.flo n a b=fl at*
   generalize Sp.res n a b=re at*
   generalize Sp.okq n a b=okq at*
   generalize Sp.inr fl=inr at*
   generalize Sp.dF n a b=dF at*
   generalize Sp.dR n a b=dR at*
   generalize Sp.eF n a b=eF at*
   generalize Sp.eR n a b=eR at*
   simp only[bLt,bLe,bEq,bNe,bNot,Bool.not_eq_true',Bool.not_eq_false',decide_eq_true_eq,decide_eq_false_iff_not,true_and,and_true]
   repeat' (first|apply And.intro|intro _)
   all_goals (first
    |trivial
    |omega
    |exact(okI.1 (by omega)).1.symm
    |exact(okI.2 (by omega)).1.symm
    |exact(erI.1 (by omega)).1.symm
    |exact(erI.2 (by omega)).1.symm
    |(have hq:Q≤4611686018427387904:=(by omega); (try rw[wq hq]); (try rw[w0 hq]); (try rw[w1 hq]); (try rw[wR]); (try rw[wbR]); first|(have:=okI.1 hq; omega)|(have:=erI.1 (by omega); omega)|(have:=erI.2 (by omega); omega))
    |(have:=okI.2 (by omega); omega)
    |(have:=erI.2 (by omega); omega))
 · simp only[bLt,decide_eq_false_iff_not]at h
   have hW:=A.2 (by omega)
   rw[hW,v1,v2]
   clear v1 v2 hW
   generalize Sp.mhi (Sp.ab n) a=mh at*
   generalize Sp.mlo (Sp.ab n) a=ml at*
   generalize Sp.ab n*a % b=R at*
   generalize Sp.quo n a b=Q at*
   generalize Sp.flo n a b=fl at*
   generalize Sp.res n a b=re at*
   generalize Sp.okq n a b=okq at*
   generalize Sp.inr fl=inr at*
   generalize Sp.dF n a b=dF at*
   generalize Sp.dR n a b=dR at*
   generalize Sp.eF n a b=eF at*
   generalize Sp.eR n a b=eR at*
   simp only[bLt,bLe,bEq,bNe,bNot,Bool.not_eq_true',Bool.not_eq_false',decide_eq_true_eq,decide_eq_false_iff_not,true_and,and_true]
   repeat' (first|apply And.intro|intro _)
   all_goals (first
    |trivial
    |omega
    |exact(okI.1 (by omega)).1.symm
    |exact(okI.2 (by omega)).1.symm
    |exact(erI.1 (by omega)).1.symm
    |exact(erI.2 (by omega)).1.symm
    |(have hq:Q≤4611686018427387904:=(by omega); (try rw[wq hq]); (try rw[w0 hq]); (try rw[w1 hq]); (try rw[wR]); (try rw[wbR]); first|(have:=okI.1 hq; omega)|(have:=erI.1 (by omega); omega)|(have:=erI.2 (by omega); omega))
    |(have:=okI.2 (by omega); omega)
    |(have:=erI.2 (by omega); omega))
def r146:Cr PR:=Kw (fun _=>true) [r139,r140] 146 6 {ps:=[(false,hI),(true,hII)],rs:=[(false,hI),(false,hI),(false,[.bool])],pre:=fun a=>1≤(I a 1 0)∧(I a 1 0)≤68719476736∧1≤(I a 1 1)∧(I a 1 1)≤68719476736∧-1125899906842624≤(I a 0 0)∧(I a 0 0)≤1125899906842624,out:=fun a=>[[.i (Sp.dF (I a 0 0) (I a 1 0) (I a 1 1))],[.i (Sp.dR (I a 0 0) (I a 1 0) (I a 1 1))],[.b (Sp.okq (I a 0 0) (I a 1 0) (I a 1 1))]]} U fun a=>Y (v146 (I a 0 0) (I a 1 0) (I a 1 1))
end Go.Sx
namespace Go.Sx
def m147_0 (n:Int) (a:Int) (b:Int):Int:=(Sp.dv (Sp.mhi (iWrap .u64 (iSub 0 (iWrap .u64 n))) (iWrap .u64 a)) (Sp.mlo (iWrap .u64 (iSub 0 (iWrap .u64 n))) (iWrap .u64 a)) (iWrap .u64 b))
def m147_1 (n:Int) (a:Int):Int:=(Sp.mhi (iWrap .u64 (iSub 0 (iWrap .u64 n))) (iWrap .u64 a))
def m147_2 (n:Int) (a:Int):Int:=(Sp.mlo (iWrap .u64 (iSub 0 (iWrap .u64 n))) (iWrap .u64 a))
def m147_3 (n:Int) (a:Int) (b:Int):Int:=(Sp.dv (Sp.mhi (iWrap .u64 n) (iWrap .u64 a)) (Sp.mlo (iWrap .u64 n) (iWrap .u64 a)) (iWrap .u64 b))
def m147_4 (n:Int) (a:Int) (b:Int):Prop:=0=Sp.eF n a b∧0=Sp.eR n a b∧false=Sp.inr (Sp.flo n a b)
def m147_5 (n:Int) (a:Int) (b:Int):Int:=(Sp.dr (Sp.mhi (iWrap .u64 n) (iWrap .u64 a)) (Sp.mlo (iWrap .u64 n) (iWrap .u64 a)) (iWrap .u64 b))
theorem v147 (n:Int) (a:Int) (b:Int):InR .i64 n∧InR .i64 a∧InR .i64 b→1≤a∧a≤68719476736∧1≤b∧b≤68719476736∧-1125899906842624≤n∧n≤1125899906842624→Cn (bLt n 0) (True∧(InR .u64 (m147_1 n a)∧InR .u64 (m147_2 n a)→Cn (bLe (iWrap .u64 b) (m147_1 n a)) ((m147_4 n a b)) ((Sp.mhi (iWrap .u64 (iSub 0 (iWrap .u64 n))) (iWrap .u64 a)<iWrap .u64 b∧True)∧(InR .u64 (m147_0 n a b)∧InR .u64 (Sp.dr (m147_1 n a) (m147_2 n a) (iWrap .u64 b))→Cn (bLt 4611686018427387904 (m147_0 n a b)) ((m147_4 n a b)) (True∧Cn (bNot (bLt n 0)) (iWrap .i64 (m147_0 n a b)=Sp.eF n a b∧iWrap .i64 (Sp.dr (m147_1 n a) (m147_2 n a) (iWrap .u64 b))=Sp.eR n a b∧true=Sp.inr (Sp.flo n a b)) (Cn (bEq (Sp.dr (m147_1 n a) (m147_2 n a) (iWrap .u64 b)) 0) (iWrap .i64 (iSub 0 (iWrap .i64 (m147_0 n a b)))=Sp.eF n a b∧0=Sp.eR n a b∧true=Sp.inr (Sp.flo n a b)) (Cn (bEq (m147_0 n a b) 4611686018427387904) ((m147_4 n a b)) (iWrap .i64 (iSub (iWrap .i64 (iSub 0 (iWrap .i64 (m147_0 n a b)))) 1)=Sp.eF n a b∧iWrap .i64 (iSub b (iWrap .i64 (Sp.dr (m147_1 n a) (m147_2 n a) (iWrap .u64 b))))=Sp.eR n a b∧true=Sp.inr (Sp.flo n a b))))))))) (True∧(InR .u64 (Sp.mhi (iWrap .u64 n) (iWrap .u64 a))∧InR .u64 (Sp.mlo (iWrap .u64 n) (iWrap .u64 a))→Cn (bLe (iWrap .u64 b) (Sp.mhi (iWrap .u64 n) (iWrap .u64 a))) ((m147_4 n a b)) ((Sp.mhi (iWrap .u64 n) (iWrap .u64 a)<iWrap .u64 b∧True)∧(InR .u64 (m147_3 n a b)∧InR .u64 (m147_5 n a b)→Cn (bLt 4611686018427387904 (m147_3 n a b)) ((m147_4 n a b)) (True∧Cn (bNot (bLt n 0)) (iWrap .i64 (m147_3 n a b)=Sp.eF n a b∧iWrap .i64 (m147_5 n a b)=Sp.eR n a b∧true=Sp.inr (Sp.flo n a b)) (Cn (bEq (m147_5 n a b) 0) (iWrap .i64 (iSub 0 (iWrap .i64 (m147_3 n a b)))=Sp.eF n a b∧0=Sp.eR n a b∧true=Sp.inr (Sp.flo n a b)) (Cn (bEq (m147_3 n a b) 4611686018427387904) ((m147_4 n a b)) (iWrap .i64 (iSub (iWrap .i64 (iSub 0 (iWrap .i64 (m147_3 n a b)))) 1)=Sp.eF n a b∧iWrap .i64 (iSub b (iWrap .i64 (m147_5 n a b)))=Sp.eR n a b∧true=Sp.inr (Sp.flo n a b))))))))):=by
 intro hw hp
 delta m147_0 m147_1 m147_2 m147_3 m147_4 m147_5
 simp only[Cn_iff,Sm_iff,true_and]
 simp only[Wfs,Wf,InR,and_true]at hw
 have F:=Sp.fl hp
 have A:=Sp.ab_wrap (n:=n) (by omega)
 have wa:iWrap .u64 a=a:=Sp.wrap64 (by omega) (by omega)
 have wb:iWrap .u64 b=b:=Sp.wrap64 (by omega) (by omega)
 rw[wa,wb]
 have hm:=F.hi0
 have k1:=F.q0
 have k2:=F.r0
 have k3:=F.r1
 have k4:=F.hi
 have k5:=F.pos
 have k6:=F.neg0
 have k7:=F.neg1
 have v1:Sp.dv (Sp.mhi (Sp.ab n) a) (Sp.mlo (Sp.ab n) a) b=Sp.quo n a b:=(Sp.dv_mul _ _ _).1
 have v2:Sp.dr (Sp.mhi (Sp.ab n) a) (Sp.mlo (Sp.ab n) a) b=Sp.ab n*a % b:=(Sp.dv_mul _ _ _).2
 have okI:(Sp.quo n a b≤4611686018427387904→Sp.okq n a b=true∧Sp.dF n a b=Sp.flo n a b∧Sp.dR n a b=Sp.res n a b)∧(4611686018427387904<Sp.quo n a b→Sp.okq n a b=false∧Sp.dF n a b=0∧Sp.dR n a b=0):=by
  constructor
  · intro h
    have e:Sp.okq n a b=true:=by unfold Sp.okq; simpa using h
    exact⟨e,by unfold Sp.dF; rw[e]; rfl,by unfold Sp.dR; rw[e]; rfl⟩
  · intro h
    have e:Sp.okq n a b=false:=by unfold Sp.okq; simp; omega
    exact⟨e,by unfold Sp.dF; rw[e]; rfl,by unfold Sp.dR; rw[e]; rfl⟩
 have erI:(-4611686018427387904≤Sp.flo n a b∧Sp.flo n a b≤4611686018427387904→Sp.inr (Sp.flo n a b)=true∧Sp.eF n a b=Sp.flo n a b∧Sp.eR n a b=Sp.res n a b)∧(¬(-4611686018427387904≤Sp.flo n a b∧Sp.flo n a b≤4611686018427387904)→Sp.inr (Sp.flo n a b)=false∧Sp.eF n a b=0∧Sp.eR n a b=0):=by
  constructor
  · intro h
    have e:Sp.inr (Sp.flo n a b)=true:=by unfold Sp.inr; simpa using h
    exact⟨e,by unfold Sp.eF; rw[e]; rfl,by unfold Sp.eR; rw[e]; rfl⟩
  · intro h
    have e:Sp.inr (Sp.flo n a b)=false:=by unfold Sp.inr; simp; omega
    exact⟨e,by unfold Sp.eF; rw[e]; rfl,by unfold Sp.eR; rw[e]; rfl⟩
 have wq:Sp.quo n a b≤4611686018427387904→iWrap .i64 (Sp.quo n a b)=Sp.quo n a b:=fun h=>Sp.wrapi (by omega) (by omega)
 have w0:Sp.quo n a b≤4611686018427387904→iWrap .i64 (iSub 0 (Sp.quo n a b))= -(Sp.quo n a b):=fun h=>by rw[Sp.wrapi (by simp only[iSub]; omega) (by simp only[iSub]; omega)]; simp only[iSub]; omega
 have w1:Sp.quo n a b≤4611686018427387904→iWrap .i64 (iSub (-(Sp.quo n a b)) 1)= -(Sp.quo n a b)-1:=fun h=>Sp.wrapi (by simp only[iSub]; omega) (by simp only[iSub]; omega)
 have wR:iWrap .i64 (Sp.ab n*a % b)=Sp.ab n*a % b:=Sp.wrapi (by omega) (by omega)
 have wbR:iWrap .i64 (iSub b (Sp.ab n*a % b))=b-Sp.ab n*a % b:=Sp.wrapi (by simp only[iSub]; omega) (by simp only[iSub]; omega)
 refine⟨fun h=> ?_,fun h=> ?_⟩
 · simp only[bLt,decide_eq_true_eq]at h
   have hW:=A.1 h
   rw[hW,v1,v2]
   clear v1 v2 hW
   generalize Sp.mhi (Sp.ab n) a=mh at*
   generalize Sp.mlo (Sp.ab n) a=ml at*
   generalize Sp.ab n*a % b=R at*
   generalize Sp.quo n a b=Q at*
   generalize Sp.flo n a b=fl at*
   generalize Sp.res n a b=re at*
   generalize Sp.okq n a b=okq at*
   generalize Sp.inr fl=inr at*
   generalize Sp.dF n a b=dF at*
   generalize Sp.dR n a b=dR at*
   generalize Sp.eF n a b=eF at*
   generalize Sp.eR n a b=eR at*
   simp only[bLt,bLe,bEq,bNe,bNot,Bool.not_eq_true',Bool.not_eq_false',decide_eq_true_eq,decide_eq_false_iff_not,true_and,and_true]
   repeat' (first|apply And.intro|intro _)
   all_goals (first
    |trivial
    |omega
    |exact(okI.1 (by omega)).1.symm
    |exact(okI.2 (by omega)).1.symm
    |exact(erI.1 (by omega)).1.symm
    |exact(erI.2 (by omega)).1.symm
    |(have hq:Q≤4611686018427387904:=(by omega); (try rw[wq hq]); (try rw[w0 hq]); (try rw[w1 hq]); (try rw[wR]); (try rw[wbR]); first|(have:=okI.1 hq; omega)|(have:=erI.1 (by omega); omega)|(have:=erI.2 (by omega); omega))
    |(have:=okI.2 (by omega); omega)
    |(have:=erI.2 (by omega); omega))
 · simp only[bLt,decide_eq_false_iff_not]at h
   have hW:=A.2 (by omega)
   rw[hW,v1,v2]
   clear v1 v2 hW
   generalize Sp.mhi (Sp.ab n) a=mh at*
   generalize Sp.mlo (Sp.ab n) a=ml at*
   generalize Sp.ab n*a % b=R at*
   generalize Sp.quo n a b=Q at*
   generalize Sp.flo n a b=fl at*
   generalize Sp.res n a b=re at*
   generalize Sp.okq n a b=okq at*
   generalize Sp.inr fl=inr at*
   generalize Sp.dF n a b=dF at*
   generalize Sp.dR n a b=dR at*
   generalize Sp.eF n a b=eF at*
   generalize Sp.eR n a b=eR at*
   simp only[bLt,bLe,bEq,bNe,bNot,Bool.not_eq_true',Bool.not_eq_false',decide_eq_true_eq,decide_eq_false_iff_not,true_and,and_true]
   repeat' (first|apply And.intro|intro _)
   all_goals (first
    |trivial
    |omega
    |exact(okI.1 (by omega)).1.symm
    |exact(okI.2 (by omega)).1.symm
    |exact(erI.1 (by omega)).1.symm
    |exact(erI.2 (by omega)).1.symm
    |(have hq:Q≤4611686018427387904:=(by omega); (try rw[wq hq]); (try rw[w0 hq]); (try rw[w1 hq]); (try rw[wR]); (try rw[wbR]); first|(have:=okI.1 hq; omega)|(have:=erI.1 (by omega); omega)|(have:=erI.2 (by omega); omega))
    |(have:=okI.2 (by omega); omega)
    |(have:=erI.2 (by omega); omega))
def r147:Cr PR:=Kw (fun _=>true) [r139,r140] 147 6 {ps:=[(false,hI),(true,hII)],rs:=[(false,hI),(false,hI),(false,[.bool])],pre:=fun a=>1≤(I a 1 0)∧(I a 1 0)≤68719476736∧1≤(I a 1 1)∧(I a 1 1)≤68719476736∧-1125899906842624≤(I a 0 0)∧(I a 0 0)≤1125899906842624,out:=fun a=>[[.i (Sp.eF (I a 0 0) (I a 1 0) (I a 1 1))],[.i (Sp.eR (I a 0 0) (I a 1 0) (I a 1 1))],[.b (Sp.inr (Sp.flo (I a 0 0) (I a 1 0) (I a 1 1)))]]} U fun a=>Y (v147 (I a 0 0) (I a 1 0) (I a 1 1))
end Go.Sx
namespace Go.Sx
theorem v145 (n:Int) (a:Int) (b:Int):InR .i64 n∧InR .i64 a∧InR .i64 b→True∧True∧Cn (bNot (Sp.rvalid a b)) (1=Sp.chk n a b) (Cn (bLt n (-1125899906842624)) (2=Sp.chk n a b) (Cn (bLt 1125899906842624 n) (2=Sp.chk n a b) (0=Sp.chk n a b))):=by
 intro hw
 simp only[Cn_iff,Sm_iff,true_and]
 unfold Sp.chk
 simp only[decide_eq_decide,beq_eq_false_iff_ne,ne_eq,iAdd,iSub,iMul,iQuo,iRem,iMin,iMax,iLen,geB,pLe,pNe,bNot,bLe,bLt,bEq,bNe,bSame,bDiff,bIf,bAnd,InR,Bool.not_true,Bool.not_false,decide_eq_true_eq,decide_eq_false_iff_not,Bool.not_eq_true',Bool.not_eq_false',beq_iff_eq,true_implies,implies_true,true_and,and_true,Bool.false_eq_true,Bool.true_eq_false,false_implies,reduceCtorEq,Bool.and_eq_true,Bool.and_eq_false_iff]
 cases Sp.rvalid a b<;>simp
 repeat' (first|apply And.intro|intro _)
 all_goals (first|omega|(rw[if_pos (by omega)])|(rw[if_neg (by omega)]))
def r145:Cr PR:=K0 [r144] 145 6 {ps:=[(false,hI),(true,hII)],rs:=[(false,hI)],pre:=fun _=>True,out:=fun a=>[[.i (Sp.chk (I a 0 0) (I a 1 0) (I a 1 1))]]} U fun a=>Y (v145 (I a 0 0) (I a 1 0) (I a 1 1))
end Go.Sx
namespace Go
open Go.Sx
theorem Sp.chk_ok {n a b:Int} (h:Sp.chk n a b=0):1≤a∧a≤68719476736∧1≤b∧b≤68719476736∧-1125899906842624≤n∧n≤1125899906842624:=by
 unfold Sp.chk at h
 split at h
 · cases h
 · rename_i h1
   split at h
   · cases h
   · have:=Sp.rvalid_of (a:=a) (b:=b) (by simpa using h1)
     omega
theorem Sp.okI (n a b:Int):(Sp.quo n a b≤4611686018427387904→Sp.okq n a b=true∧Sp.dF n a b=Sp.flo n a b∧Sp.dR n a b=Sp.res n a b)∧(4611686018427387904<Sp.quo n a b→Sp.okq n a b=false∧Sp.dF n a b=0∧Sp.dR n a b=0):=by
 constructor
 · intro h
   have e:Sp.okq n a b=true:=by unfold Sp.okq; simpa using h
   exact⟨e,by unfold Sp.dF; rw[e]; rfl,by unfold Sp.dR; rw[e]; rfl⟩
 · intro h
   have e:Sp.okq n a b=false:=by unfold Sp.okq; simp; omega
   exact⟨e,by unfold Sp.dF; rw[e]; rfl,by unfold Sp.dR; rw[e]; rfl⟩
theorem Sp.okI' (n a b:Int):(Sp.okq n a b=true→Sp.quo n a b≤4611686018427387904)∧(Sp.okq n a b=false→4611686018427387904<Sp.quo n a b):=by
 unfold Sp.okq; simp
theorem Sp.floI {n a b:Int} (h:Sp.chk n a b=0):(-4611686018427387904≤Sp.flo n a b∧Sp.flo n a b≤4611686018427387904→Sp.floE n a b=0∧Sp.floV n a b=Sp.flo n a b∧Sp.resV n a b=Sp.res n a b∧Sp.inr (Sp.flo n a b)=true)∧
 (¬(-4611686018427387904≤Sp.flo n a b∧Sp.flo n a b≤4611686018427387904)→Sp.floE n a b=2∧Sp.floV n a b=0∧Sp.resV n a b=0∧Sp.inr (Sp.flo n a b)=false):=by
 constructor
 · intro hi
   have e:Sp.inr (Sp.flo n a b)=true:=by unfold Sp.inr; simpa using hi
   have f:Sp.floE n a b=0:=by unfold Sp.floE; rw[if_neg (by omega),e]; rfl
   exact⟨f,by unfold Sp.floV; rw[if_pos f],by unfold Sp.resV; rw[if_pos f],e⟩
 · intro hi
   have e:Sp.inr (Sp.flo n a b)=false:=by unfold Sp.inr; simp; omega
   have f:Sp.floE n a b=2:=by unfold Sp.floE; rw[if_neg (by omega),e]; rfl
   exact⟨f,by unfold Sp.floV; rw[if_neg (by omega)],by unfold Sp.resV; rw[if_neg (by omega)],e⟩
theorem Sp.ceiI {n a b:Int} (h:Sp.chk n a b=0):(-4611686018427387904≤Sp.cei n a b∧Sp.cei n a b≤4611686018427387904→Sp.ceiE n a b=0∧Sp.ceiV n a b=Sp.cei n a b)∧
 (¬(-4611686018427387904≤Sp.cei n a b∧Sp.cei n a b≤4611686018427387904)→Sp.ceiE n a b=2∧Sp.ceiV n a b=0):=by
 constructor
 · intro hi
   have e:Sp.inr (Sp.cei n a b)=true:=by unfold Sp.inr; simpa using hi
   have f:Sp.ceiE n a b=0:=by unfold Sp.ceiE; rw[if_neg (by omega),e]; rfl
   exact⟨f,by unfold Sp.ceiV; rw[if_pos f]⟩
 · intro hi
   have e:Sp.inr (Sp.cei n a b)=false:=by unfold Sp.inr; simp; omega
   have f:Sp.ceiE n a b=2:=by unfold Sp.ceiE; rw[if_neg (by omega),e]; rfl
   exact⟨f,by unfold Sp.ceiV; rw[if_neg (by omega)]⟩
theorem Sp.bad {n a b:Int} (h:Sp.chk n a b≠0):Sp.floE n a b=Sp.chk n a b∧Sp.floV n a b=0∧Sp.resV n a b=0∧Sp.ceiE n a b=Sp.chk n a b∧Sp.ceiV n a b=0:=by
 have e:Sp.floE n a b=Sp.chk n a b:=by unfold Sp.floE; rw[if_pos h]
 have f:Sp.ceiE n a b=Sp.chk n a b:=by unfold Sp.ceiE; rw[if_pos h]
 exact⟨e,by unfold Sp.floV; rw[if_neg (by omega)],by unfold Sp.resV; rw[if_neg (by omega)],f,by unfold Sp.ceiV; rw[if_neg (by omega)]⟩
theorem Sp.cei_flo {n a b:Int} (hb:1≤b):(Sp.res n a b=0→Sp.cei n a b=Sp.flo n a b)∧(Sp.res n a b≠0→Sp.cei n a b=Sp.flo n a b+1)∧0≤Sp.res n a b∧Sp.res n a b<b:=by
 have nd:=Sp.neg_div (m:=n*a) (b:=b) hb
 unfold Sp.cei Sp.flo Sp.res
 rw[Int.neg_mul]
 exact⟨fun h=>by rw[(nd.1 h).1]; omega,fun h=>by rw[(nd.2 h).1]; omega,Int.emod_nonneg _ (by omega),Int.emod_lt_of_pos _ (by omega)⟩
theorem Sp.flo_neg {n a b:Int}:Sp.flo (-n) a b= -(Sp.cei n a b):=by unfold Sp.flo Sp.cei; omega
end Go
namespace Go.Sx
theorem v269 (n:Int) (a:Int) (b:Int):InR .i64 n∧InR .i64 a∧InR .i64 b→True∧(InR .i64 (Sp.chk n a b)→Cn (bNe (Sp.chk n a b) 0) (0=Sp.floV n a b∧0=Sp.resV n a b∧Sp.chk n a b=Sp.floE n a b) ((1≤a∧a≤68719476736∧1≤b∧b≤68719476736∧-1125899906842624≤n∧n≤1125899906842624)∧(InR .i64 (Sp.dF n a b)∧InR .i64 (Sp.dR n a b)→True∧Cn (bNot (Sp.okq n a b)) (0=Sp.floV n a b∧0=Sp.resV n a b∧2=Sp.floE n a b) (Cn (bLt (Sp.dF n a b) (-4611686018427387904)) (0=Sp.floV n a b∧0=Sp.resV n a b∧2=Sp.floE n a b) (Sp.dF n a b=Sp.floV n a b∧Sp.dR n a b=Sp.resV n a b∧0=Sp.floE n a b))))):=by
 intro hw
 simp only[Cn_iff,Sm_iff,true_and]
 simp only[Wfs,Wf,InR,and_true]at hw
 by_cases hc:Sp.chk n a b=0
 · have ck:=Sp.chk_ok hc
   have F:=Sp.fl ck
   have o1:=Sp.okI n a b
   have o2:=Sp.okI' n a b
   have f0:=Sp.floI hc
   have f1:=fun h=>(⟨(f0.1 h).1,(f0.1 h).2.1,(f0.1 h).2.2.1⟩:Sp.floE n a b=0∧Sp.floV n a b=Sp.flo n a b∧Sp.resV n a b=Sp.res n a b)
   have f2:=fun h=>(⟨(f0.2 h).1,(f0.2 h).2.1,(f0.2 h).2.2.1⟩:Sp.floE n a b=2∧Sp.floV n a b=0∧Sp.resV n a b=0)
   have c1:=(Sp.ceiI hc).1
   have c2:=(Sp.ceiI hc).2
   clear f0
   have cf:=Sp.cei_flo (n:=n) (a:=a) (b:=b) (by omega)
   have k1:=F.q0
   have k2:=F.r0
   have k3:=F.r1
   have k5:=F.pos
   have k6:=F.neg0
   have k7:=F.neg1
   cases hq:Sp.okq n a b<;>simp only[hq,Bool.false_eq_true,Bool.true_eq_false,reduceCtorEq,false_implies,true_implies,and_true,true_and,false_and,and_false,implies_true]at o1 o2 ⊢
   all_goals (clear F; simp only[hc,bNe,bNot,bLt,iAdd,iSub,InR,decide_true,decide_eq_true_eq,decide_eq_false_iff_not,Bool.not_true,Bool.not_false,Bool.not_eq_true',Bool.not_eq_false',Bool.false_eq_true,Bool.true_eq_false,reduceCtorEq,not_true_eq_false,false_implies,true_implies,implies_true,and_true,true_and])
   all_goals
    generalize Sp.ab n*a % b=R at*
    generalize Sp.quo n a b=Q at*
    generalize Sp.floE n a b=fE at*
    generalize Sp.floV n a b=fV at*
    generalize Sp.resV n a b=rV at*
    generalize Sp.ceiE n a b=cE at*
    generalize Sp.ceiV n a b=cV at*
    generalize Sp.cei n a b=ce at*
    generalize Sp.dF n a b=dF at*
    generalize Sp.dR n a b=dR at*
    generalize Sp.flo n a b=fl at*
    generalize Sp.res n a b=re at*
    generalize Sp.chk n a b=ck at*
    repeat' (first|apply And.intro|intro _)
    all_goals (first|trivial|assumption|omega)
 · have bd:=Sp.bad hc
   simp only[bNe,bNot,hc,bd,decide_false,decide_true,Bool.not_false,Bool.not_true,Bool.false_eq_true,Bool.true_eq_false,reduceCtorEq,false_implies,true_implies,implies_true,and_true,true_and]
def r269:Cr PR:=K0 [r145,r146] 269 6 {ps:=[(false,hI),(true,hII)],rs:=[(false,hI),(false,hI),(false,hI)],pre:=fun _=>True,out:=fun a=>[[.i (Sp.floV (I a 0 0) (I a 1 0) (I a 1 1))],[.i (Sp.resV (I a 0 0) (I a 1 0) (I a 1 1))],[.i (Sp.floE (I a 0 0) (I a 1 0) (I a 1 1))]]} U fun a=>Y (v269 (I a 0 0) (I a 1 0) (I a 1 1))
end Go.Sx
namespace Go.Sx
theorem v244 (n:Int) (a:Int) (b:Int):InR .i64 n∧InR .i64 a∧InR .i64 b→True∧(InR .i64 (Sp.floV n a b)∧InR .i64 (Sp.resV n a b)∧InR .i64 (Sp.floE n a b)→Sm (Sp.floV n a b)∧Sm (Sp.floE n a b)):=by
 intro hw
 simp only[Cn_iff,Sm_iff,true_and]
 exact fun _=>trivial
def r244:Cr PR:=K0 [r269] 244 6 {ps:=[(false,hI),(true,hII)],rs:=[(false,hI),(false,hI)],pre:=fun _=>True,out:=fun a=>[[.i (Sp.floV (I a 0 0) (I a 1 0) (I a 1 1))],[.i (Sp.floE (I a 0 0) (I a 1 0) (I a 1 1))]]} U fun a=>Y (v244 (I a 0 0) (I a 1 0) (I a 1 1))
end Go.Sx
namespace Go.Sx
def m89_0 (n:Int) (a:Int) (b:Int):Prop:=True∧Cn (bNot (Sp.okq n a b)) (0=Sp.ceiV n a b∧2=Sp.ceiE n a b) (Cn (bLt (Sp.dF n a b) (-4611686018427387904)) (0=Sp.ceiV n a b∧2=Sp.ceiE n a b) (Cn (bLt 4611686018427387904 (Sp.dF n a b)) (0=Sp.ceiV n a b∧2=Sp.ceiE n a b) (Sp.dF n a b=Sp.ceiV n a b∧0=Sp.ceiE n a b)))
theorem v89 (n:Int) (a:Int) (b:Int):InR .i64 n∧InR .i64 a∧InR .i64 b→True∧(InR .i64 (Sp.chk n a b)→Cn (bNe (Sp.chk n a b) 0) (0=Sp.ceiV n a b∧Sp.chk n a b=Sp.ceiE n a b) ((1≤a∧a≤68719476736∧1≤b∧b≤68719476736∧-1125899906842624≤n∧n≤1125899906842624)∧(InR .i64 (Sp.dF n a b)∧InR .i64 (Sp.dR n a b)→Cn (Sp.okq n a b) (Cn (bLt 0 (Sp.dR n a b)) (InR .i64 (iAdd (Sp.dF n a b) 1)∧True∧Cn (bNot (Sp.okq n a b)) (0=Sp.ceiV n a b∧2=Sp.ceiE n a b) (Cn (bLt (iAdd (Sp.dF n a b) 1) (-4611686018427387904)) (0=Sp.ceiV n a b∧2=Sp.ceiE n a b) (Cn (bLt 4611686018427387904 (iAdd (Sp.dF n a b) 1)) (0=Sp.ceiV n a b∧2=Sp.ceiE n a b) (iAdd (Sp.dF n a b) 1=Sp.ceiV n a b∧0=Sp.ceiE n a b)))) ((m89_0 n a b))) ((m89_0 n a b))))):=by
 intro hw
 delta m89_0
 simp only[Cn_iff,Sm_iff,true_and]
 simp only[Wfs,Wf,InR,and_true]at hw
 by_cases hc:Sp.chk n a b=0
 · have ck:=Sp.chk_ok hc
   have F:=Sp.fl ck
   have o1:=Sp.okI n a b
   have o2:=Sp.okI' n a b
   have f0:=Sp.floI hc
   have f1:=fun h=>(⟨(f0.1 h).1,(f0.1 h).2.1,(f0.1 h).2.2.1⟩:Sp.floE n a b=0∧Sp.floV n a b=Sp.flo n a b∧Sp.resV n a b=Sp.res n a b)
   have f2:=fun h=>(⟨(f0.2 h).1,(f0.2 h).2.1,(f0.2 h).2.2.1⟩:Sp.floE n a b=2∧Sp.floV n a b=0∧Sp.resV n a b=0)
   have c1:=(Sp.ceiI hc).1
   have c2:=(Sp.ceiI hc).2
   clear f0
   have cf:=Sp.cei_flo (n:=n) (a:=a) (b:=b) (by omega)
   have k1:=F.q0
   have k2:=F.r0
   have k3:=F.r1
   have k5:=F.pos
   have k6:=F.neg0
   have k7:=F.neg1
   cases hq:Sp.okq n a b<;>simp only[hq,Bool.false_eq_true,Bool.true_eq_false,reduceCtorEq,false_implies,true_implies,and_true,true_and,false_and,and_false,implies_true]at o1 o2 ⊢
   all_goals (clear F; simp only[hc,bNe,bNot,bLt,iAdd,iSub,InR,decide_true,decide_eq_true_eq,decide_eq_false_iff_not,Bool.not_true,Bool.not_false,Bool.not_eq_true',Bool.not_eq_false',Bool.false_eq_true,Bool.true_eq_false,reduceCtorEq,not_true_eq_false,false_implies,true_implies,implies_true,and_true,true_and])
   all_goals
    generalize Sp.ab n*a % b=R at*
    generalize Sp.quo n a b=Q at*
    generalize Sp.floE n a b=fE at*
    generalize Sp.floV n a b=fV at*
    generalize Sp.resV n a b=rV at*
    generalize Sp.ceiE n a b=cE at*
    generalize Sp.ceiV n a b=cV at*
    generalize Sp.cei n a b=ce at*
    generalize Sp.dF n a b=dF at*
    generalize Sp.dR n a b=dR at*
    generalize Sp.flo n a b=fl at*
    generalize Sp.res n a b=re at*
    generalize Sp.chk n a b=ck at*
    repeat' (first|apply And.intro|intro _)
    all_goals (first|trivial|assumption|omega)
 · have bd:=Sp.bad hc
   simp only[bNe,bNot,hc,bd,decide_false,decide_true,Bool.not_false,Bool.not_true,Bool.false_eq_true,Bool.true_eq_false,reduceCtorEq,false_implies,true_implies,implies_true,and_true,true_and]
def r89:Cr PR:=K0 [r145,r146] 89 6 {ps:=[(false,hI),(true,hII)],rs:=[(false,hI),(false,hI)],pre:=fun _=>True,out:=fun a=>[[.i (Sp.ceiV (I a 0 0) (I a 1 0) (I a 1 1))],[.i (Sp.ceiE (I a 0 0) (I a 1 0) (I a 1 1))]]} U fun a=>Y (v89 (I a 0 0) (I a 1 0) (I a 1 1))
end Go.Sx

set_option linter.unusedVariables false
set_option linter.unusedSimpArgs false
set_option maxRecDepth 100000
set_option maxHeartbeats 4000000
namespace Go
open Go.Sx
def Sp.mulX (a b c d:Int):Int:=a/Sp.gcd a d*(c/Sp.gcd c b)
def Sp.mulY (a b c d:Int):Int:=b/Sp.gcd c b*(d/Sp.gcd a d)
def Sp.mulE (a b c d:Int):Int:=if Sp.rvalid a b=false∨Sp.rvalid c d=false then 1 else if 68719476736<Sp.mulX a b c d∨68719476736<Sp.mulY a b c d then 2 else 0
def Sp.mulV (a b c d v:Int):Int:=if Sp.mulE a b c d=0 then v else 0
def Sp.invE (a b:Int):Int:=bif Sp.rvalid a b then 0 else 1
def Sp.invV (a b v:Int):Int:=bif Sp.rvalid a b then v else 0
def Sp.cmp (a b c d:Int):Int:=if Sp.rvalid a b=false∨Sp.rvalid c d=false then 0 else if a*d<c*b then-1 else if a*d=c*b then 0 else 1
end Go
namespace Go
open Go.Sx
theorem Sp.erI (n a b:Int):(-4611686018427387904≤Sp.flo n a b∧Sp.flo n a b≤4611686018427387904→Sp.inr (Sp.flo n a b)=true∧Sp.eF n a b=Sp.flo n a b∧Sp.eR n a b=Sp.res n a b)∧(¬(-4611686018427387904≤Sp.flo n a b∧Sp.flo n a b≤4611686018427387904)→Sp.inr (Sp.flo n a b)=false∧Sp.eF n a b=0∧Sp.eR n a b=0):=by
 constructor
 · intro h
   have e:Sp.inr (Sp.flo n a b)=true:=by unfold Sp.inr; simpa using h
   exact⟨e,by unfold Sp.eF; rw[e]; rfl,by unfold Sp.eR; rw[e]; rfl⟩
 · intro h
   have e:Sp.inr (Sp.flo n a b)=false:=by unfold Sp.inr; simp; omega
   exact⟨e,by unfold Sp.eF; rw[e]; rfl,by unfold Sp.eR; rw[e]; rfl⟩
theorem Sp.chk_c (n a b:Int):(Sp.rvalid a b=false→Sp.chk n a b=1)∧(Sp.rvalid a b=true→(n< -1125899906842624∨1125899906842624<n→Sp.chk n a b=2)∧(-1125899906842624≤n∧n≤1125899906842624→Sp.chk n a b=0)):=by
 unfold Sp.chk
 refine⟨fun h=>if_pos h,fun h=>⟨fun h1=> ?_,fun h1=> ?_⟩⟩
 · rw[if_neg (by simp[h]),if_pos h1]
 · rw[if_neg (by simp[h]),if_neg (by omega)]
theorem Sp.mk_ok {a b:Int} (h1:1≤a) (h2:a≤68719476736) (h3:1≤b) (h4:b≤68719476736):Sp.mkE a b=0:=by
 have h:=Sp.gcd_quo (a:=a) (b:=b) h1 h3
 unfold Sp.mkE
 rw[if_neg (by omega),if_neg (by omega)]
theorem Sp.mul_bd4 {a b c d:Int} (h:Sp.rvalid a b=true) (h':Sp.rvalid c d=true):
 1≤a/Sp.gcd a d∧a/Sp.gcd a d≤68719476736∧1≤c/Sp.gcd c b∧c/Sp.gcd c b≤68719476736∧1≤b/Sp.gcd c b∧b/Sp.gcd c b≤68719476736∧1≤d/Sp.gcd a d∧d/Sp.gcd a d≤68719476736:=by
 have r:=Sp.rvalid_of h
 have s:=Sp.rvalid_of h'
 have x:=Sp.gcd_quo (a:=a) (b:=d) (by omega) (by omega)
 have y:=Sp.gcd_quo (a:=c) (b:=b) (by omega) (by omega)
 omega
end Go
namespace Go.Sx
end Go.Sx
namespace Go.Sx
theorem v91 (n:Int) (a:Int) (b:Int):InR .i64 n∧InR .i64 a∧InR .i64 b→True∧True∧Cn (bNot (Sp.rvalid a b)) (0=Sp.ceiV n a b∧1=Sp.ceiE n a b) (Cn (bLt n (-1125899906842624)) (0=Sp.ceiV n a b∧2=Sp.ceiE n a b) (Cn (bLt 1125899906842624 n) (0=Sp.ceiV n a b∧2=Sp.ceiE n a b) (InR .i64 (iSub 0 n)∧(1≤a∧a≤68719476736∧1≤b∧b≤68719476736∧-1125899906842624≤iSub 0 n∧iSub 0 n≤1125899906842624)∧(InR .i64 (Sp.eF (iSub 0 n) a b)∧InR .i64 (Sp.eR (iSub 0 n) a b)→True∧Cn (bNot (Sp.inr (Sp.flo (iSub 0 n) a b))) (0=Sp.ceiV n a b∧2=Sp.ceiE n a b) (InR .i64 (iSub 0 (Sp.eF (iSub 0 n) a b))∧iSub 0 (Sp.eF (iSub 0 n) a b)=Sp.ceiV n a b∧0=Sp.ceiE n a b))))):=by
 intro hw
 simp only[Cn_iff,Sm_iff,true_and]
 have hp:True:=trivial
 simp only[Wfs,Wf,InR,and_true]at hw
 have cc:=Sp.chk_c n a b
 cases hv:Sp.rvalid a b
 · have e:=cc.1 hv
   have bd:=Sp.bad (n:=n) (a:=a) (b:=b) (by omega)
   have r1:Sp.ceiE n a b=1:=by rw[bd.2.2.2.1]; omega
   have r2:Sp.ceiV n a b=0:=by exact bd.2.2.2.2
   simp only[bNot,bNe,r1,r2,Bool.not_false,Bool.not_true,Bool.false_eq_true,Bool.true_eq_false,reduceCtorEq,false_implies,true_implies,implies_true,and_true,true_and]
 · by_cases hr: -1125899906842624≤n∧n≤1125899906842624
   · have hc:=(cc.2 hv).2 hr
     have rv:=Sp.rvalid_of hv
     have f0:=Sp.floI hc
     have f1:=fun h=>(⟨(f0.1 h).1,(f0.1 h).2.1,(f0.1 h).2.2.1⟩:Sp.floE n a b=0∧Sp.floV n a b=Sp.flo n a b∧Sp.resV n a b=Sp.res n a b)
     have f2:=fun h=>(⟨(f0.2 h).1,(f0.2 h).2.1,(f0.2 h).2.2.1⟩:Sp.floE n a b=2∧Sp.floV n a b=0∧Sp.resV n a b=0)
     have c1:=(Sp.ceiI hc).1
     have c2:=(Sp.ceiI hc).2
     have en:=Sp.flo_neg (n:=n) (a:=a) (b:=b)
     have er:=Sp.erI (-n) a b
     simp only[iSub,Int.zero_sub,bLt,bNot,bNe,InR,decide_true,decide_eq_true_eq,decide_eq_false_iff_not,Bool.not_true,Bool.not_false,Bool.false_eq_true,Bool.true_eq_false,reduceCtorEq,not_true_eq_false,false_implies,true_implies,implies_true,and_true,true_and]
     clear f0 cc hw hp
     by_cases hin: -4611686018427387904≤Sp.flo (-n) a b∧Sp.flo (-n) a b≤4611686018427387904
     · have er:=er.1 hin
       simp only[er,decide_true,Bool.not_true,Bool.false_eq_true,Bool.true_eq_false,reduceCtorEq,false_implies,true_implies,implies_true,and_true,true_and]
       repeat' (first|apply And.intro|intro _)
       all_goals (first|trivial|assumption|omega)
     · have er:=er.2 hin
       simp only[er,Bool.not_false,Bool.false_eq_true,Bool.true_eq_false,reduceCtorEq,false_implies,true_implies,implies_true,and_true,true_and]
       repeat' (first|apply And.intro|intro _)
       all_goals (first|trivial|assumption|omega)
   · have e:=(cc.2 hv).1 (by omega)
     have bd:=Sp.bad (n:=n) (a:=a) (b:=b) (by omega)
     have r1:Sp.ceiE n a b=2:=by rw[bd.2.2.2.1]; omega
     have r2:Sp.ceiV n a b=0:=by exact bd.2.2.2.2
     simp only[bNot,bNe,bLt,r1,r2,decide_eq_true_eq,decide_eq_false_iff_not,Bool.not_false,Bool.not_true,Bool.false_eq_true,Bool.true_eq_false,reduceCtorEq,false_implies,true_implies,implies_true,and_true,true_and]
     repeat' (first|apply And.intro|intro _)
     all_goals (first|trivial|omega)
def r91:Cr PR:=K0 [r76,r147] 91 6 {ps:=[(false,hI),(true,hII)],rs:=[(false,hI),(false,hI)],pre:=fun _=>True,out:=fun a=>[[.i (Sp.ceiV (I a 0 0) (I a 1 0) (I a 1 1))],[.i (Sp.ceiE (I a 0 0) (I a 1 0) (I a 1 1))]]} U fun a=>Y (v91 (I a 0 0) (I a 1 0) (I a 1 1))
end Go.Sx
namespace Go.Sx
theorem v143 (p:Int) (q:Int):InR .i64 p∧InR .i64 q→Cn (bLt p 1) (0=Sp.mkV p q p∧0=Sp.mkV p q q∧1=Sp.mkE p q) (Cn (bLt q 1) (0=Sp.mkV p q p∧0=Sp.mkV p q q∧1=Sp.mkE p q) ((0<p∧0≤q)∧(InR .i64 (Sp.gcd p q)→(pNe (Sp.gcd p q) 0∧InR .i64 (iQuo p (Sp.gcd p q)))∧(pNe (Sp.gcd p q) 0∧InR .i64 (iQuo q (Sp.gcd p q)))∧Cn (bLt 68719476736 (iQuo p (Sp.gcd p q))) (0=Sp.mkV p q p∧0=Sp.mkV p q q∧2=Sp.mkE p q) (Cn (bLt 68719476736 (iQuo q (Sp.gcd p q))) (0=Sp.mkV p q p∧0=Sp.mkV p q q∧2=Sp.mkE p q) (iQuo p (Sp.gcd p q)=Sp.mkV p q p∧iQuo q (Sp.gcd p q)=Sp.mkV p q q∧0=Sp.mkE p q))))):=by
 intro hw
 simp only[Cn_iff,Sm_iff,true_and]
 simp only[Wfs,Wf,InR,and_true]at hw
 by_cases h:p<1∨q<1
 · have e:Sp.mkE p q=1:=by unfold Sp.mkE; rw[if_pos h]
   have f:∀v,Sp.mkV p q v=0:=fun v=>by unfold Sp.mkV; rw[if_neg (by omega)]
   simp only[e,f,bLt,bLe,decide_eq_true_eq,decide_eq_false_iff_not]
   repeat' (first|apply And.intro|intro _)
   all_goals (first|trivial|omega)
 · have g:=Sp.gcd_quo (a:=p) (b:=q) (by omega) (by omega)
   have g1:=Sp.gcd_pos (a:=p) (b:=q) (by omega)
   have t1:iQuo p (Sp.gcd p q)=p/Sp.gcd p q:=Int.tdiv_eq_ediv_of_nonneg (by omega)
   have t2:iQuo q (Sp.gcd p q)=q/Sp.gcd p q:=Int.tdiv_eq_ediv_of_nonneg (by omega)
   have e:Sp.mkE p q=if 68719476736<p/Sp.gcd p q∨68719476736<q/Sp.gcd p q then 2 else 0:=by unfold Sp.mkE; rw[if_neg h]
   have f:∀v,Sp.mkV p q v=if Sp.mkE p q=0 then v/Sp.gcd p q else 0:=fun v=>rfl
   simp only[t1,t2,f,e]
   generalize p/Sp.gcd p q=P at*
   generalize q/Sp.gcd p q=Q at*
   simp only[bLt,bLe,pNe,InR,decide_eq_true_eq,decide_eq_false_iff_not]
   repeat' (first|apply And.intro|intro _)
   all_goals (first|trivial|omega|(split<;>first|omega|(split<;>omega)))
def r143:Cr PR:=K0 [r206] 143 6 {ps:=[(false,hI),(false,hI)],rs:=[(true,hII),(false,hI)],pre:=fun _=>True,out:=fun a=>[[.i (Sp.mkV (I a 0 0) (I a 1 0) (I a 0 0)),.i (Sp.mkV (I a 0 0) (I a 1 0) (I a 1 0))],[.i (Sp.mkE (I a 0 0) (I a 1 0))]]} U fun a=>Y (v143 (I a 0 0) (I a 1 0))
end Go.Sx
namespace Go.Sx
theorem v34 (p:Int) (q:Int):InR .i64 p∧InR .i64 q→Cn (bLt p 1) (0=Sp.mkV p q p∧0=Sp.mkV p q q∧1=Sp.mkE p q) (Cn (bLt q 1) (0=Sp.mkV p q p∧0=Sp.mkV p q q∧1=Sp.mkE p q) ((0<p∧0≤q)∧(InR .i64 (Sp.gcd p q)→(pNe (Sp.gcd p q) 0∧InR .i64 (iQuo p (Sp.gcd p q)))∧(pNe (Sp.gcd p q) 0∧InR .i64 (iQuo q (Sp.gcd p q)))∧Cn (bLt 68719476736 (iQuo p (Sp.gcd p q))) (0=Sp.mkV p q p∧0=Sp.mkV p q q∧2=Sp.mkE p q) (Cn (bLt 68719476736 (iQuo q (Sp.gcd p q))) (0=Sp.mkV p q p∧0=Sp.mkV p q q∧2=Sp.mkE p q) (iQuo p (Sp.gcd p q)=Sp.mkV p q p∧iQuo q (Sp.gcd p q)=Sp.mkV p q q∧0=Sp.mkE p q))))):=by
 intro hw
 simp only[Cn_iff,Sm_iff,true_and]
 simp only[Wfs,Wf,InR,and_true]at hw
 by_cases h:p<1∨q<1
 · have e:Sp.mkE p q=1:=by unfold Sp.mkE; rw[if_pos h]
   have f:∀v,Sp.mkV p q v=0:=fun v=>by unfold Sp.mkV; rw[if_neg (by omega)]
   simp only[e,f,bLt,bLe,decide_eq_true_eq,decide_eq_false_iff_not]
   repeat' (first|apply And.intro|intro _)
   all_goals (first|trivial|omega)
 · have g:=Sp.gcd_quo (a:=p) (b:=q) (by omega) (by omega)
   have g1:=Sp.gcd_pos (a:=p) (b:=q) (by omega)
   have t1:iQuo p (Sp.gcd p q)=p/Sp.gcd p q:=Int.tdiv_eq_ediv_of_nonneg (by omega)
   have t2:iQuo q (Sp.gcd p q)=q/Sp.gcd p q:=Int.tdiv_eq_ediv_of_nonneg (by omega)
   have e:Sp.mkE p q=if 68719476736<p/Sp.gcd p q∨68719476736<q/Sp.gcd p q then 2 else 0:=by unfold Sp.mkE; rw[if_neg h]
   have f:∀v,Sp.mkV p q v=if Sp.mkE p q=0 then v/Sp.gcd p q else 0:=fun v=>rfl
   simp only[t1,t2,f,e]
   generalize p/Sp.gcd p q=P at*
   generalize q/Sp.gcd p q=Q at*
   simp only[bLt,bLe,pNe,InR,decide_eq_true_eq,decide_eq_false_iff_not]
   repeat' (first|apply And.intro|intro _)
   all_goals (first|trivial|omega|(split<;>first|omega|(split<;>omega)))
def r34:Cr PR:=K0 [r74] 34 6 {ps:=[(false,hI),(false,hI)],rs:=[(true,hII),(false,hI)],pre:=fun _=>True,out:=fun a=>[[.i (Sp.mkV (I a 0 0) (I a 1 0) (I a 0 0)),.i (Sp.mkV (I a 0 0) (I a 1 0) (I a 1 0))],[.i (Sp.mkE (I a 0 0) (I a 1 0))]]} U fun a=>Y (v34 (I a 0 0) (I a 1 0))
end Go.Sx
namespace Go.Sx
theorem v88 (a:Int) (b:Int):InR .i64 a∧InR .i64 b→True∧True∧Cn (bNot (Sp.rvalid a b)) (0=Sp.invV a b b∧0=Sp.invV a b a∧1=Sp.invE a b) (b=Sp.invV a b b∧a=Sp.invV a b a∧0=Sp.invE a b):=by
 intro hw
 simp only[Cn_iff,Sm_iff,true_and]
 unfold Sp.invV Sp.invE
 cases Sp.rvalid a b<;>simp[bNot]
def r88:Cr PR:=K0 [r144] 88 6 {ps:=[(true,hII)],rs:=[(true,hII),(false,hI)],pre:=fun _=>True,out:=fun a=>[[.i (Sp.invV (I a 0 0) (I a 0 1) (I a 0 1)),.i (Sp.invV (I a 0 0) (I a 0 1) (I a 0 0))],[.i (Sp.invE (I a 0 0) (I a 0 1))]]} U fun a=>Y (v88 (I a 0 0) (I a 0 1))
end Go.Sx
namespace Go.Sx
theorem v90 (a:Int) (b:Int):InR .i64 a∧InR .i64 b→True∧True∧Cn (bNot (Sp.rvalid a b)) (0=Sp.invV a b b∧0=Sp.invV a b a∧1=Sp.invE a b) (b=Sp.invV a b b∧a=Sp.invV a b a∧0=Sp.invE a b):=by
 intro hw
 simp only[Cn_iff,Sm_iff,true_and]
 unfold Sp.invV Sp.invE
 cases Sp.rvalid a b<;>simp[bNot]
def r90:Cr PR:=K0 [r76] 90 6 {ps:=[(true,hII)],rs:=[(true,hII),(false,hI)],pre:=fun _=>True,out:=fun a=>[[.i (Sp.invV (I a 0 0) (I a 0 1) (I a 0 1)),.i (Sp.invV (I a 0 0) (I a 0 1) (I a 0 0))],[.i (Sp.invE (I a 0 0) (I a 0 1))]]} U fun a=>Y (v90 (I a 0 0) (I a 0 1))
end Go.Sx

set_option linter.unusedVariables false
set_option linter.unusedSimpArgs false
set_option maxRecDepth 100000
set_option maxHeartbeats 4000000
namespace Go
open Go.Sx
def Sp.tmO (p q:Int):Bool:=decide (p*q≤68719476736)
def Sp.tmV (p q:Int):Int:=IntKind.i64.wrap (Sp.mlo p q)
end Go
namespace Go
open Go.Sx
theorem Sp.hl (p q:Int):p*q=Sp.mhi p q*18446744073709551616+Sp.mlo p q∧0≤Sp.mlo p q∧Sp.mlo p q<18446744073709551616:=by unfold Sp.mhi Sp.mlo; omega
theorem Sp.tmV_ok {p q:Int} (h0:0≤p*q) (h:p*q≤68719476736):Sp.tmV p q=p*q:=by
 have:=Sp.hl p q
 have e:Sp.mlo p q=p*q:=by omega
 unfold Sp.tmV; rw[e]
 exact InR.wrap (by simp only[InR]; omega)
end Go
namespace Go.Sx
theorem v168 (a:Int) (b:Int) (c:Int) (d:Int):InR .i64 a∧InR .i64 b∧InR .i64 c∧InR .i64 d→True∧True∧Cn (bNot (Sp.rvalid a b)) (0=Sp.mulV a b c d (Sp.mulX a b c d)∧0=Sp.mulV a b c d (Sp.mulY a b c d)∧1=Sp.mulE a b c d) (True∧True∧Cn (bNot (Sp.rvalid c d)) (0=Sp.mulV a b c d (Sp.mulX a b c d)∧0=Sp.mulV a b c d (Sp.mulY a b c d)∧1=Sp.mulE a b c d) ((0<a∧0≤d)∧(InR .i64 (Sp.gcd a d)→(0<c∧0≤b)∧(InR .i64 (Sp.gcd c b)→(pNe (Sp.gcd a d) 0∧InR .i64 (iQuo a (Sp.gcd a d)))∧(pNe (Sp.gcd c b) 0∧InR .i64 (iQuo c (Sp.gcd c b)))∧(pNe (Sp.gcd c b) 0∧InR .i64 (iQuo b (Sp.gcd c b)))∧(pNe (Sp.gcd a d) 0∧InR .i64 (iQuo d (Sp.gcd a d)))∧(pNe (iQuo c (Sp.gcd c b)) 0∧InR .i64 (iQuo 68719476736 (iQuo c (Sp.gcd c b))))∧Cn (bLt (iQuo 68719476736 (iQuo c (Sp.gcd c b))) (iQuo a (Sp.gcd a d))) (0=Sp.mulV a b c d (Sp.mulX a b c d)∧0=Sp.mulV a b c d (Sp.mulY a b c d)∧2=Sp.mulE a b c d) ((pNe (iQuo d (Sp.gcd a d)) 0∧InR .i64 (iQuo 68719476736 (iQuo d (Sp.gcd a d))))∧Cn (bLt (iQuo 68719476736 (iQuo d (Sp.gcd a d))) (iQuo b (Sp.gcd c b))) (0=Sp.mulV a b c d (Sp.mulX a b c d)∧0=Sp.mulV a b c d (Sp.mulY a b c d)∧2=Sp.mulE a b c d) (InR .i64 (iMul (iQuo a (Sp.gcd a d)) (iQuo c (Sp.gcd c b)))∧InR .i64 (iMul (iQuo b (Sp.gcd c b)) (iQuo d (Sp.gcd a d)))∧iMul (iQuo a (Sp.gcd a d)) (iQuo c (Sp.gcd c b))=Sp.mulV a b c d (Sp.mulX a b c d)∧iMul (iQuo b (Sp.gcd c b)) (iQuo d (Sp.gcd a d))=Sp.mulV a b c d (Sp.mulY a b c d)∧0=Sp.mulE a b c d)))))):=by
 intro hw
 simp only[Cn_iff,Sm_iff,true_and]
 simp only[Wfs,Wf,InR,and_true]at hw
 cases hv:Sp.rvalid a b
 · have e:Sp.mulE a b c d=1:=by unfold Sp.mulE; rw[if_pos (.inl hv)]
   have f:∀v,Sp.mulV a b c d v=0:=fun v=>by unfold Sp.mulV; rw[if_neg (by omega)]
   simp[bNot,e,f]
 · cases hw':Sp.rvalid c d
   · have e:Sp.mulE a b c d=1:=by unfold Sp.mulE; rw[if_pos (.inr hw')]
     have f:∀v,Sp.mulV a b c d v=0:=fun v=>by unfold Sp.mulV; rw[if_neg (by omega)]
     simp[bNot,e,f]
   · have r:=Sp.rvalid_of hv
     have s:=Sp.rvalid_of hw'
     have g1:=Sp.gcd_pos (a:=a) (b:=d) (by omega)
     have g2:=Sp.gcd_pos (a:=c) (b:=b) (by omega)
     have k:=Sp.mul_bd4 hv hw'
     have eX:Sp.mulX a b c d=a/Sp.gcd a d*(c/Sp.gcd c b):=rfl
     have eY:Sp.mulY a b c d=b/Sp.gcd c b*(d/Sp.gcd a d):=rfl
     have t1:iQuo a (Sp.gcd a d)=a/Sp.gcd a d:=Int.tdiv_eq_ediv_of_nonneg (by omega)
     have t2:iQuo c (Sp.gcd c b)=c/Sp.gcd c b:=Int.tdiv_eq_ediv_of_nonneg (by omega)
     have t3:iQuo b (Sp.gcd c b)=b/Sp.gcd c b:=Int.tdiv_eq_ediv_of_nonneg (by omega)
     have t4:iQuo d (Sp.gcd a d)=d/Sp.gcd a d:=Int.tdiv_eq_ediv_of_nonneg (by omega)
     have mX:=mul_bd (x:=a/Sp.gcd a d) (X:=68719476736) (y:=c/Sp.gcd c b) (Y:=68719476736) (by omega) (by omega) (by omega) (by omega)
     have mY:=mul_bd (x:=b/Sp.gcd c b) (X:=68719476736) (y:=d/Sp.gcd a d) (Y:=68719476736) (by omega) (by omega) (by omega) (by omega)
     have vX:=Sp.tmV_ok mX.1
     have vY:=Sp.tmV_ok mY.1
     have oX:Sp.tmO (a/Sp.gcd a d) (c/Sp.gcd c b)=decide (a/Sp.gcd a d*(c/Sp.gcd c b)≤68719476736):=rfl
     have oY:Sp.tmO (b/Sp.gcd c b) (d/Sp.gcd a d)=decide (b/Sp.gcd c b*(d/Sp.gcd a d)≤68719476736):=rfl
     have d1:iQuo 68719476736 (c/Sp.gcd c b)<a/Sp.gcd a d↔68719476736<a/Sp.gcd a d*(c/Sp.gcd c b):=by
      rw[show iQuo 68719476736 (c/Sp.gcd c b)=68719476736/(c/Sp.gcd c b)from Int.tdiv_eq_ediv_of_nonneg (by omega)]
      exact Int.ediv_lt_iff_lt_mul (by omega)
     have d2:iQuo 68719476736 (d/Sp.gcd a d)<b/Sp.gcd c b↔68719476736<b/Sp.gcd c b*(d/Sp.gcd a d):=by
      rw[show iQuo 68719476736 (d/Sp.gcd a d)=68719476736/(d/Sp.gcd a d)from Int.tdiv_eq_ediv_of_nonneg (by omega)]
      exact Int.ediv_lt_iff_lt_mul (by omega)
     have b1:InR .i64 (iQuo 68719476736 (c/Sp.gcd c b)):=by
      have q0:=Int.ediv_nonneg (a:=68719476736) (b:=c/Sp.gcd c b) (by omega) (by omega)
      have q1:=Int.ediv_le_self (a:=68719476736) (c/Sp.gcd c b) (by omega)
      rw[show iQuo 68719476736 (c/Sp.gcd c b)=68719476736/(c/Sp.gcd c b)from Int.tdiv_eq_ediv_of_nonneg (by omega)]
      simp only[InR]; omega
     have b2:InR .i64 (iQuo 68719476736 (d/Sp.gcd a d)):=by
      have q0:=Int.ediv_nonneg (a:=68719476736) (b:=d/Sp.gcd a d) (by omega) (by omega)
      have q1:=Int.ediv_le_self (a:=68719476736) (d/Sp.gcd a d) (by omega)
      rw[show iQuo 68719476736 (d/Sp.gcd a d)=68719476736/(d/Sp.gcd a d)from Int.tdiv_eq_ediv_of_nonneg (by omega)]
      simp only[InR]; omega
     have e:Sp.mulE a b c d=if 68719476736<Sp.mulX a b c d∨68719476736<Sp.mulY a b c d then 2 else 0:=by unfold Sp.mulE; rw[if_neg (by simp[hv,hw'])]
     have f:∀v,Sp.mulV a b c d v=if Sp.mulE a b c d=0 then v else 0:=fun v=>rfl
     simp only[t1,t2,t3,t4,f,e,eX,eY,oX,oY]
     simp only[bNot,iMul,Bool.not_true,Bool.not_false,Bool.not_eq_true',Bool.not_eq_false',bLt,decide_eq_true_eq,decide_eq_false_iff_not,Bool.false_eq_true,Bool.true_eq_false,reduceCtorEq,false_implies,true_implies,implies_true,true_and,and_true,d1,d2]
     generalize a/Sp.gcd a d=X at*
     generalize c/Sp.gcd c b=Y at*
     generalize b/Sp.gcd c b=U at*
     generalize d/Sp.gcd a d=W at*
     generalize X*Y=XY at*
     generalize U*W=UW at*
     generalize iQuo 68719476736 Y=i1 at*
     generalize iQuo 68719476736 W=i2 at*
     simp only[pNe,iMul,InR]at*
     repeat' (first|apply And.intro|intro _)
     all_goals (first|trivial|omega|(rw[vX (by omega),if_pos (by rw[if_neg (by omega)])])|(rw[vY (by omega),if_pos (by rw[if_neg (by omega)])])|(split<;>first|omega|(split<;>omega))|skip)
def r168:Cr PR:=K0 [r76,r74] 168 6 {ps:=[(true,hII),(true,hII)],rs:=[(true,hII),(false,hI)],pre:=fun _=>True,out:=fun a=>[[.i (Sp.mulV (I a 0 0) (I a 0 1) (I a 1 0) (I a 1 1) (Sp.mulX (I a 0 0) (I a 0 1) (I a 1 0) (I a 1 1))),.i (Sp.mulV (I a 0 0) (I a 0 1) (I a 1 0) (I a 1 1) (Sp.mulY (I a 0 0) (I a 0 1) (I a 1 0) (I a 1 1)))],[.i (Sp.mulE (I a 0 0) (I a 0 1) (I a 1 0) (I a 1 1))]]} U fun a=>Y (v168 (I a 0 0) (I a 0 1) (I a 1 0) (I a 1 1))
end Go.Sx
namespace Go.Sx
def m203_0 (a:Int) (d:Int):Int:=(Sp.mhi (iWrap .u64 a) (iWrap .u64 d))
def m203_1 (b:Int) (c:Int):Int:=(Sp.mhi (iWrap .u64 c) (iWrap .u64 b))
theorem v203 (a:Int) (b:Int) (c:Int) (d:Int):InR .i64 a∧InR .i64 b∧InR .i64 c∧InR .i64 d→True∧True∧Cn (bNot (Sp.rvalid a b)) (0=Sp.cmp a b c d) (True∧True∧Cn (bNot (Sp.rvalid c d)) (0=Sp.cmp a b c d) (True∧(InR .u64 (m203_0 a d)∧InR .u64 (Sp.mlo (iWrap .u64 a) (iWrap .u64 d))→True∧(InR .u64 (m203_1 b c)∧InR .u64 (Sp.mlo (iWrap .u64 c) (iWrap .u64 b))→Cn (bLt (m203_0 a d) (m203_1 b c)) (-1=Sp.cmp a b c d) (Cn (bEq (m203_0 a d) (m203_1 b c)) (Cn (bLt (Sp.mlo (iWrap .u64 a) (iWrap .u64 d)) (Sp.mlo (iWrap .u64 c) (iWrap .u64 b))) (-1=Sp.cmp a b c d) (Cn (bLt (m203_1 b c) (m203_0 a d)) (1=Sp.cmp a b c d) (Cn (bEq (m203_0 a d) (m203_1 b c)) (Cn (bLt (Sp.mlo (iWrap .u64 c) (iWrap .u64 b)) (Sp.mlo (iWrap .u64 a) (iWrap .u64 d))) (1=Sp.cmp a b c d) (0=Sp.cmp a b c d)) (0=Sp.cmp a b c d)))) (Cn (bLt (m203_1 b c) (m203_0 a d)) (1=Sp.cmp a b c d) (Cn (bEq (m203_0 a d) (m203_1 b c)) (Cn (bLt (Sp.mlo (iWrap .u64 c) (iWrap .u64 b)) (Sp.mlo (iWrap .u64 a) (iWrap .u64 d))) (1=Sp.cmp a b c d) (0=Sp.cmp a b c d)) (0=Sp.cmp a b c d)))))))):=by
 intro hw
 delta m203_0 m203_1
 simp only[Cn_iff,Sm_iff,true_and]
 simp only[Wfs,Wf,InR,and_true]at hw
 have e:Sp.cmp a b c d=if Sp.rvalid a b=false∨Sp.rvalid c d=false then 0 else if a*d<c*b then-1 else if a*d=c*b then 0 else 1:=rfl
 cases hv:Sp.rvalid a b
 · simp[bNot,e,hv]
 · cases hw':Sp.rvalid c d
   · simp[bNot,e,hw']
   · have r:=Sp.rvalid_of hv
     have s:=Sp.rvalid_of hw'
     have w1:iWrap .u64 a=a:=Sp.wrap64 (by omega) (by omega)
     have w2:iWrap .u64 b=b:=Sp.wrap64 (by omega) (by omega)
     have w3:iWrap .u64 c=c:=Sp.wrap64 (by omega) (by omega)
     have w4:iWrap .u64 d=d:=Sp.wrap64 (by omega) (by omega)
     have l1:=Sp.hl a d
     have l2:=Sp.hl c b
     rw[if_neg (by simp[hv,hw'])]at e
     rw[w1,w2,w3,w4,e]
     generalize Sp.mhi a d=h1 at*
     generalize Sp.mlo a d=m1 at*
     generalize Sp.mhi c b=h2 at*
     generalize Sp.mlo c b=m2 at*
     generalize a*d=p at*
     generalize c*b=q at*
     simp only[bNot,bLt,bEq,Bool.not_true,Bool.not_false,Bool.not_eq_true',Bool.not_eq_false',decide_eq_true_eq,decide_eq_false_iff_not,Bool.false_eq_true,Bool.true_eq_false,reduceCtorEq,false_implies,true_implies,implies_true,true_and,and_true]
     repeat' (first|apply And.intro|intro _)
     all_goals (first|trivial|omega|(rw[if_pos (by omega)])|(rw[if_neg (by omega),if_pos (by omega)])|(rw[if_neg (by omega),if_neg (by omega)]))
def r203:Cr PR:=K0 [r76,r139] 203 6 {ps:=[(true,hII),(true,hII)],rs:=[(false,hI)],pre:=fun _=>True,out:=fun a=>[[.i (Sp.cmp (I a 0 0) (I a 0 1) (I a 1 0) (I a 1 1))]]} U fun a=>Y (v203 (I a 0 0) (I a 0 1) (I a 1 0) (I a 1 1))
end Go.Sx

