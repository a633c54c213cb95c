import Derived.Test.YtejdbdegdanecaaGreatSxUse
import Derived.Test.YtejdbdegdanecaaGreatN08
import Derived.Test.YtejdbdegdanecaaGreatN17
set_option linter.unusedVariables false
set_option linter.unusedSimpArgs false
set_option maxRecDepth 100000
set_option maxHeartbeats 4000000
namespace Go
open Go.Sx
def FY (x:List C) (ch n:Int):Int:=if AQ (qi 0 x) (ql 1 x)=true/\GN (qi 2 x) (qi 3 x) (ql 4 x)=true/\FK (qi 5 x) (qi 6 x) (qi 7 x) (qi 8 x)=true then(if qi 2 x≠qi 0 x∨qi 3 x≠ch then 11 else if n<AO (qi 0 x) (ql 1 x)then 2 else 0)else 1
def J3 (x:List C):List C:=IQ (qi 2 x) (qi 3 x) (ql 4 x) (qi 0 x) (ql 1 x)
def OJ (x:List C):List (List C):=ql 1 (Js (qi 5 x) (qi 6 x) (qi 7 x) (qi 8 x) (qi 0 (J3 x)) (ql 1 (J3 x)))
def Ij:List (List C)->List (List C)->List (List C)
 |x::r,y::s=>[.i (qi 0 y+qi 0 x)]::Ij r s
 |[],s=>s
 |_::_,[]=>[]
def GK (xs ys:List (List C)) (k:Int):List (List C):=(Ij xs ys).take k.toNat++ys.drop k.toNat
def OA (ch n:Int):List (List C)->List (List C)->List (List C)×Int
 |[],ys=>(ys,0)
 |x::r,ys=>if FY x ch n≠0 then([],FY x ch n)else OA ch n r (Ij (OJ x) ys)
def V5 (b:Int) (ys:List (List C)):Prop:=∀x∈ys,-b<=qi 0 x/\qi 0 x<=b
def Uk (ch n:Int) (l:List (List C)) (z:Int) (ys:List (List C)):Prop:=0<=z/\z<=(l.length:Int)/\(ys.length:Int)=ch*n/\V5 (z*8388608) ys/\OA ch n (l.drop z.toNat) ys=OA ch n l (IR (ch*n))
def FI (ch n:Int) (l:List (List C)):Int:=if 1<=ch/\ch<=8/\0<=n/\n<=65536 then(if 32<l.length then 3 else(OA ch n l (IR (ch*n))).2)else 2
def Es (ch n:Int) (l:List (List C)):List (List C):=if FI ch n l=0 then(OA ch n l (IR (ch*n))).1 else[]
def QJ (ch n:Int) (l:List (List C)) (h e g:Int):Int:=if FI ch n l≠0 then FI ch n l else IW h e g ch (Es ch n l)
def P9 (ch n:Int) (l:List (List C)) (h e g:Int):List C:=if FI ch n l≠0 then[]else IM h e g ch (Es ch n l)
def Og (ch n:Int) (l:List (List C)) (h e g:Int):List C:=if FI ch n l≠0 then[]else Fg h e g ch (Es ch n l)
def I5 (f t n a k:Int):Int:=if FK f t n a=false then 1 else if k<0∨65536<k then 2 else 0
def EE (f t n a k:Int):List C:=if I5 f t n a k=0 then[.i f,.i t,.i n,.i (min n (a+k))]else[]
end Go
namespace Go
open Go.Sx
theorem Wp {x:List C} {ch n:Int} (h:FY x ch n=0):AQ (qi 0 x) (ql 1 x)=true/\GN (qi 2 x) (qi 3 x) (ql 4 x)=true/\FK (qi 5 x) (qi 6 x) (qi 7 x) (qi 8 x)=true/\qi 2 x=qi 0 x/\qi 3 x=ch/\AO (qi 0 x) (ql 1 x)<=n:=by
 unfold FY at h;split at h
 · rename_i c;split at h
   · omega
   split at h
   · omega
   · exact⟨c.1,c.2.1,c.2.2,by omega,by omega,by omega⟩
 · omega
theorem ZB {x:List C} {ch n:Int} (h:FY x ch n=0):J3 x=[.i ch,.l (E9 (qi 0 x) ch (ql 4 x) (ql 1 x) (AO (qi 0 x) (ql 1 x)))]:=by
 obtain⟨b,m,r,e1,e2,f⟩:=Wp h;have e0:IP (qi 2 x) (qi 3 x) (ql 4 x) (qi 0 x) (ql 1 x)=0:=by unfold IP; rw[if_neg (by simp[b,m]),if_neg (by omega)]
 unfold J3 IQ;rw[if_pos e0,e1,e2];unfold AO; rw[b]; rfl
theorem Yw {x:List C} {ch n:Int} (h:FY x ch n=0):((OJ x).length:Int)<=ch*n:=by
 obtain⟨b,m,r,e1,e2,f⟩:=Wp h;have a:=ZB h;have mv:=(Vp m).1;have fr:=SH (qi 0 x) (ql 1 x);have l:=Ud (qi 0 x) ch (ql 4 x) (ql 1 x) (AO (qi 0 x) (ql 1 x)) (by omega);have c:=Int.mul_le_mul_of_nonneg_right f (show 0<=ch by omega);rw[Int.toNat_of_nonneg fr.1]at l;rw[Int.mul_comm n]at c;have d:=Int.mul_nonneg (show 0<=ch by omega) (show 0<=n by omega);unfold OJ Js;rw[a];split
 · show((IZ _ _ _ _ _ (E9 (qi 0 x) ch (ql 4 x) (ql 1 x) (AO (qi 0 x) (ql 1 x))) (E9 (qi 0 x) ch (ql 4 x) (ql 1 x) (AO (qi 0 x) (ql 1 x))).length).length:Int)<=_;rw[VG]; omega
 · exact d
theorem Zi (x:List C):(OJ x).all FT=true:=by
 unfold OJ Js;split
 · exact Zb ..
 · rfl
theorem NT:∀ {xs ys:List (List C)},xs.length<=ys.length->(Ij xs ys).length=ys.length
 |[],_,_=>rfl
 |_::_,[],h=>by cases h
 |x::r,y::s,h=>by
  have:=NT (xs:=r) (ys:=s) (by simpa using h);simp only[Ij,List.length_cons,this]
theorem Vq:∀ {xs ys:List (List C)} {j:Nat},j<xs.length->j<ys.length->(Ij xs ys).getD j []=[.i (qi 0 (ys.getD j [])+qi 0 (xs.getD j []))]
 |[],_,_,h,_=>by cases h
 |_::_,[],_,_,h=>by cases h
 |x::r,y::s,0,_,_=>rfl
 |x::r,y::s,j+1,h,g=>by
  simpa only[Ij,List.getD_cons_succ]using Vq (xs:=r) (ys:=s) (j:=j) (by simpa using h) (by simpa using g)
theorem Vr:∀ {xs ys:List (List C)},xs.length<=ys.length->(Ij xs ys).drop xs.length=ys.drop xs.length
 |[],_,_=>rfl
 |_::_,[],h=>by cases h
 |x::r,y::s,h=>by
  simpa only[Ij,List.length_cons,List.drop_succ_cons]using Vr (xs:=r) (ys:=s) (by simpa using h)
theorem VP {b:Int}:∀ {xs ys:List (List C)},V5 b ys->xs.all FT=true->V5 (b+8388608) (Ij xs ys)
 |[],_,h,_=>λz hz=>by have:=h z hz; omega
 |_::_,[],_,_=>λz hz=>by cases hz
 |x::r,y::s,h,g=>λz hz=>by
  simp only[List.all_cons,Bool.and_eq_true]at g;have gx: -8388608<=qi 0 x/\qi 0 x<=8388607:=of_decide_eq_true g.1;have hy:=h y (List.mem_cons_self ..);rcases List.mem_cons.1 hz with rfl|hz
  · show-(b+8388608)<=qi 0 y+qi 0 x/\qi 0 y+qi 0 x<=b+8388608;omega
  · exact VP (λw hw=>h w (List.mem_cons_of_mem _ hw)) g.2 z hz
theorem Xi {xs ys:List (List C)} {k:Int} (h:xs.length<=ys.length):(GK xs ys k).length=ys.length:=by
 unfold GK; rw[List.length_append,List.length_take,List.length_drop,NT h]; omega
theorem Ya {xs ys:List (List C)} {k:Int} (h:xs.length<=ys.length) (h0:0<=k) (h1:k<(xs.length:Int)):rGet (GK xs ys k) k=rGet ys k:=by
 unfold GK rGet;rw[List.getD_eq_getElem?_getD,List.getElem?_append_right (by rw[List.length_take,NT h]; omega),List.length_take,NT h,show k.toNat-min k.toNat ys.length=0 by omega,List.getElem?_drop,List.getD_eq_getElem?_getD]; rfl
theorem Ze {xs ys:List (List C)} {k:Int} (h:xs.length<=ys.length) (h0:0<=k) (h1:k<(xs.length:Int)):rSet (GK xs ys k) k [.i (qi 0 (rGet ys k)+qi 0 (rGet xs k))]=GK xs ys (k+1):=by
 have g:=Vq (xs:=xs) (ys:=ys) (j:=k.toNat) (by omega) (by omega);have ml:=NT h;unfold GK;rw[Abm h0 (show k<((Ij xs ys).length:Int) by omega),Aaq h0 (show k<(ys.length:Int) by omega)];unfold rSet;rw[List.set_append_right _ _ (by rw[List.length_take]; omega),List.length_take,show k.toNat-min k.toNat (Ij xs ys).length=0 by omega,List.set_cons_zero,List.append_assoc];congr 1;show _=rGet (Ij xs ys) k::_;rw[show rGet (Ij xs ys) k=_ from g]; rfl
theorem Y8 {xs ys:List (List C)} {k:Int} (h:xs.length<=ys.length) (h1:k=(xs.length:Int)):GK xs ys k=Ij xs ys:=by
 unfold GK;rw[h1,Int.toNat_natCast,←Vr h,List.take_append_drop]
end Go
namespace Go.Sx
theorem v218 (x:List C) (ch:Int) (n:Int):WD hIn x/\InR .i64 ch/\InR .i64 n->True/\True/\Cn (bNot (AQ (qi 0 x) (ql 1 x))) (1=FY x ch n) (True/\True/\Cn (bNot (GN (qi 2 x) (qi 3 x) (ql 4 x))) (1=FY x ch n) (True/\True/\Cn (bNot (FK (qi 5 x) (qi 6 x) (qi 7 x) (qi 8 x))) (1=FY x ch n) (Cn (bNe (qi 2 x) (qi 0 x)) (11=FY x ch n) (Cn (bNe (qi 3 x) ch) (11=FY x ch n) (True/\(InR .i64 (AO (qi 0 x) (ql 1 x))->Cn (bLt n (AO (qi 0 x) (ql 1 x))) (2=FY x ch n) (0=FY x ch n))))))):=by
 intro hw;simp only[D,E];unfold FY;refine⟨λh=>(if_neg (by simp[h])).symm,λh1=>⟨λh=>(if_neg (by simp[h])).symm,λh2=>⟨λh=>(if_neg (by simp[h])).symm,λh3=> ?_⟩⟩⟩;rw[if_pos ⟨h1,h2,h3⟩];exact⟨λa=>by rw[if_pos (.inl a)],λa=>⟨λb=>by rw[if_pos (.inr b)],λb _=>⟨λc=>by rw[if_neg (by omega),if_pos c],λc=>by rw[if_neg (by omega),if_neg c]⟩⟩⟩
def r218:Cr PR:=K0 [r108,r178,r123,r109] 218 6 {ps:=[(true,hIn),(false,hI),(false,hI)],rs:=[(false,hI)],pre:=λ_=>True,out:=λa=>[[.i (FY (arg 0 a) (I a 1 0) (I a 2 0))]]} U λa=>Y (v218 (arg 0 a) (I a 1 0) (I a 2 0))
end Go.Sx
namespace Go.Sx
def A174 (ch:Int) (n:Int) (l:List (List C)):FuncId->Nat->LoopAnn:=λ_ ii=>bif Nat.beq ii 7 then .on (λsv0=>match sv0.tmps.getD 8 .undef with| .own kk vv=> .inv (Int×List (List C)) (λz=>Uk ch n l z.1 z.2) (λz=>[(39,.int .i64 z.1)]) (λz=>[(kk,.row hI 2 vv z.2)]) [kk] ([0,1,2,6,7,8,10,11,12,14,15,29,32,37,38,39,40,48,67,68,69,70]++[1000000+kk]) (λz=>l.length-z.1.toNat)|_=> .unroll 0)else .on (λsv0=>match sv0.tmps.getD 8 .undef with| .own kk vv=>(match sv0.tmps.getD 67 .undef with| .sl _ ds=>(match(sv0.heap[kk]? :Option HB)with|some (.row _ _ _ ys)=> .inv Int (λz=>Bh (ds.length:Int) z) (λz=>[(69,.int .i64 z)]) (λz=>[(kk,.row hI 2 vv (GK ds ys z))]) [kk] ([0,1,2,6,7,8,10,11,12,14,15,29,32,37,38,39,40,48,67,68,69,70]++[1000000+kk]) (λz=>ds.length-z.toNat)|_=> .unroll 0)|_=> .unroll 0)|_=> .unroll 0)
def AfU (l:List (List C)) (x:Int×List (List C)):List C:=(Iu (qi 5 (rGet l x.1)) (qi 6 (rGet l x.1)) (qi 7 (rGet l x.1)) (qi 8 (rGet l x.1)) (qi 0 (J3 (rGet l x.1))) (ql 1 (J3 (rGet l x.1))))
def AaJ (l:List (List C)) (x:Int×List (List C)):List (List C):=(OJ (rGet l x.1))
theorem v174 (ch:Int) (n:Int) (l:List (List C)):InR .i64 ch/\InR .i64 n/\WL hIn l->Cn (bLt ch 1) ([]=Es ch n l/\2=FI ch n l) (Cn (bLt 8 ch) ([]=Es ch n l/\2=FI ch n l) (Cn (bLt n 0) ([]=Es ch n l/\2=FI ch n l) (Cn (bLt 65536 n) ([]=Es ch n l/\2=FI ch n l) (pLe (iLen l) 9223372036854775807->Cn (bLt 32 (iLen l)) ([]=Es ch n l/\3=FI ch n l) (InR .i64 (iMul ch n)/\(pLe 0 (iMul ch n)/\pLe (iMul ch n) (iMul ch n)/\Aar 8 (iMul ch n))/\(pLe (iLen l) 9223372036854775807->(∃(x:Int×List (List C)),Uk ch n l x.1 x.2/\0=x.1/\List.replicate (iMul ch n).toNat [C.i 0]=x.2)/\∀(x:Int×List (List C)),Uk ch n l x.1 x.2->InR .i64 x.1/\WL hI x.2->Cn (bLt x.1 (iLen l)) (pIn 0 (iLen l) x.1/\(WD hIn (rGet l x.1)->True/\(InR .i64 (FY (rGet l x.1) ch n)->Cn (bNe (FY (rGet l x.1) ch n) 0) ([]=Es ch n l/\FY (rGet l x.1) ch n=FI ch n l) (True/\(InR .i64 (qi 0 (J3 (rGet l x.1)))/\WL hW (ql 1 (J3 (rGet l x.1)))/\InR .i64 (IP (qi 2 (rGet l x.1)) (qi 3 (rGet l x.1)) (ql 4 (rGet l x.1)) (qi 0 (rGet l x.1)) (ql 1 (rGet l x.1)))->True/\(InR .i64 (qi 0 (Js (qi 5 (rGet l x.1)) (qi 6 (rGet l x.1)) (qi 7 (rGet l x.1)) (qi 8 (rGet l x.1)) (qi 0 (J3 (rGet l x.1))) (ql 1 (J3 (rGet l x.1)))))/\WL hW (AaJ l x)/\InR .i64 (qi 0 (AfU l x))/\InR .i64 (qi 1 (AfU l x))/\InR .i64 (qi 2 (AfU l x))/\InR .i64 (qi 3 (AfU l x))/\InR .i64 (MR (qi 5 (rGet l x.1)) (qi 6 (rGet l x.1)) (qi 7 (rGet l x.1)) (qi 8 (rGet l x.1)) (qi 0 (J3 (rGet l x.1))) (ql 1 (J3 (rGet l x.1))))->pLe (iLen (AaJ l x)) 9223372036854775807->(∃(x_1:Int),Bh (↑(AaJ l x).length) x_1/\0=x_1/\x.2=GK (AaJ l x) x.2 x_1)/\∀(x_1:Int),Bh (↑(AaJ l x).length) x_1->InR .i64 x_1/\WL hI (GK (AaJ l x) x.2 x_1)->Cn (bLt x_1 (iLen (AaJ l x))) (pIn 0 (iLen (AaJ l x)) x_1/\(InR .i32 (qi 0 (rGet (AaJ l x) x_1))->pIn 0 (iLen (GK (AaJ l x) x.2 x_1)) x_1/\(InR .i64 (qi 0 (rGet (GK (AaJ l x) x.2 x_1) x_1))->InR .i64 (iAdd (qi 0 (rGet (GK (AaJ l x) x.2 x_1) x_1)) (qi 0 (rGet (AaJ l x) x_1)))/\pIn 0 (iLen (GK (AaJ l x) x.2 x_1)) x_1/\InR .i64 (iAdd x_1 1)/\Sm ch/\Sm n/\Sm l/\Sm (FY (rGet l x.1) ch n)/\Sm l/\Sm (iLen l)/\Sm x.1/\Sm (AaJ l x)/\Sm (iLen (AaJ l x))/\Sm (sg 0 [0,3,0,0,3,0,0,0,0] (rGet l x.1))/\Sm (sg 0 [0,3] (Js (qi 5 (rGet l x.1)) (qi 6 (rGet l x.1)) (qi 7 (rGet l x.1)) (qi 8 (rGet l x.1)) (qi 0 (J3 (rGet l x.1))) (ql 1 (J3 (rGet l x.1)))))/\∃(y:Int),Bh (↑(AaJ l x).length) y/\iAdd x_1 1=y/\rSet (GK (AaJ l x) x.2 x_1) x_1 [C.i (iAdd (qi 0 (rGet (GK (AaJ l x) x.2 x_1) x_1)) (qi 0 (rGet (AaJ l x) x_1)))]=GK (AaJ l x) x.2 y/\nLt ((AaJ l x).length-y.toNat) ((AaJ l x).length-x_1.toNat)))) (InR .i64 (iAdd x.1 1)/\Sm ch/\Sm n/\Sm l/\Sm l/\Sm (iLen l)/\∃(y:Int×List (List C)),Uk ch n l y.1 y.2/\iAdd x.1 1=y.1/\GK (AaJ l x) x.2 x_1=y.2/\nLt (l.length-y.1.toNat) (l.length-x.1.toNat)))))))) (x.2=Es ch n l/\0=FI ch n l))))))):=by
 intro hw;delta AfU AaJ;have no:∀ {x:Int},x≠0->FI ch n l=x->[]=Es ch n l/\x=FI ch n l:=λh0 h1=>by
  unfold Es; rw[if_neg (by omega),h1]; exact⟨rfl,rfl⟩
 have n1:¬(1<=ch/\ch<=8/\0<=n/\n<=65536)->FI ch n l=2:=λh=>if_neg h;simp only[D,E];refine⟨λa=>no (by omega) (n1 (by omega)),λa1=>⟨λa=>no (by omega) (n1 (by omega)),λa2=>⟨λa=>no (by omega) (n1 (by omega)),λa3=>⟨λa=>no (by omega) (n1 (by omega)),λa4 _=>⟨λa=>no (by omega) (by unfold FI; rw[if_pos (by omega),if_pos (by omega)]),λa5=> ?_⟩⟩⟩⟩⟩;have e:FI ch n l=(OA ch n l (IR (ch*n))).2:=by unfold FI; rw[if_pos (by omega),if_neg (by omega)]
 have m:=Aap (x:=ch) (X:=8) (y:=n) (Y:=65536) (by omega) (by omega) (by omega) (by omega);have zl:=RZ (ch*n);have rng:∀ {k:Int},-1000000000000000000<=k->k<=1000000000000000000->InR .i64 k:=λa b=>by simp only[InR]; omega
 refine⟨rng (by omega) (by omega),⟨m.1,Int.le_refl _,by omega⟩,λ_=>⟨⟨(0,IR (ch*n)),⟨Int.le_refl _,by simp only; omega,by rw[zl]; omega,λx hx=>by rw[List.eq_of_mem_replicate hx]; show(-(0*8388608):Int)<=0/\(0:Int)<=0*8388608; decide,rfl⟩,rfl,rfl⟩,?_⟩⟩;intro⟨z,ys⟩ ⟨z0,z1,yl,yb,yg⟩ _;simp only at*;refine⟨λhl=> ?_,λhl=> ?_⟩
 · have st:OA ch n (l.drop z.toNat) ys=if FY (rGet l z) ch n≠0 then([],FY (rGet l z) ch n)else OA ch n (l.drop (z+1).toNat) (Ij (OJ (rGet l z)) ys):=by rw[Aaq z0 hl]; rfl
   generalize rGet l z=x at*;refine⟨⟨z0,hl⟩,λ_ _=>⟨λbad=>no bad (by rw[e,←yg,st,if_pos bad]),λok _ _ _=> ?_⟩⟩;have il:=Yw ok;have is:=Zi x;have ll:(OJ x).length<=ys.length:=by omega
   refine⟨⟨0,⟨Int.le_refl _,by omega⟩,rfl,rfl⟩,?_⟩;intro j ⟨j0,j1⟩ _;have kl:=Xi (k:=j) ll;refine⟨λhj=> ?_,λhj=> ?_⟩
   · have b1:=yb _ (Lc (i:=j) j0 (by omega));have b2:=TG is j0 hj;rw[Ya ll j0 hj,kl];exact⟨⟨j0,hj⟩,λ_=>⟨⟨j0,by omega⟩,λ_=>⟨rng (by omega) (by omega),⟨j0,by omega⟩,rng (by omega) (by omega),j+1,⟨by omega,by omega⟩,rfl,Ze ll j0 hj,by omega⟩⟩⟩
   · rw[Y8 ll (show j=_ by omega)];exact⟨rng (by omega) (by omega),(z+1,Ij (OJ x) ys),⟨by simp only; omega,by simp only; omega,by simp only; rw[NT ll]; exact yl,by simp only; rw[Int.add_mul]; exact VP yb is,by simp only; rw[←yg,st,if_neg (by omega)]⟩,rfl,rfl,by simp only; omega⟩
 · have ez:(OA ch n l (IR (ch*n)))=(ys,0):=by rw[←yg,List.drop_eq_nil_of_le (by omega)]; rfl
   rw[ez]at e;unfold Es; rw[if_pos e,e,ez]; exact⟨rfl,rfl⟩
def r174:Cr PR:=K0 [r218,r120,r121] 174 8 {ps:=[(false,hI),(false,hI),(false,[.sl hIn])],rs:=[(false,hL),(false,hI)],pre:=λ_=>True,out:=λa=>[[.l (Es (I a 0 0) (I a 1 0) (L a 2 0))],[.i (FI (I a 0 0) (I a 1 0) (L a 2 0))]]} (λa=>A174 (I a 0 0) (I a 1 0) (L a 2 0)) λa=>Y (v174 (I a 0 0) (I a 1 0) (L a 2 0))
end Go.Sx
namespace Go.Sx
theorem v116 (ch:Int) (n:Int) (l:List (List C)) (h:Int) (e:Int) (g:Int):InR .i64 ch/\InR .i64 n/\WL hIn l/\InR .i64 h/\InR .i64 e/\InR .i64 g->True/\(WL hI (Es ch n l)/\InR .i64 (FI ch n l)->Cn (bNe (FI ch n l) 0) (0=qi 0 (P9 ch n l h e g)/\[]=ql 1 (P9 ch n l h e g)/\0=qi 0 (Og ch n l h e g)/\0=qi 1 (Og ch n l h e g)/\0=qi 2 (Og ch n l h e g)/\FI ch n l=QJ ch n l h e g) (True/\(InR .i64 (qi 0 (IM h e g ch (Es ch n l)))/\WL hW (ql 1 (IM h e g ch (Es ch n l)))/\InR .i64 (qi 0 (Fg h e g ch (Es ch n l)))/\InR .i64 (qi 1 (Fg h e g ch (Es ch n l)))/\InR .i64 (qi 2 (Fg h e g ch (Es ch n l)))/\InR .i64 (IW h e g ch (Es ch n l))->qi 0 (IM h e g ch (Es ch n l))=qi 0 (P9 ch n l h e g)/\ql 1 (IM h e g ch (Es ch n l))=ql 1 (P9 ch n l h e g)/\qi 0 (Fg h e g ch (Es ch n l))=qi 0 (Og ch n l h e g)/\qi 1 (Fg h e g ch (Es ch n l))=qi 1 (Og ch n l h e g)/\qi 2 (Fg h e g ch (Es ch n l))=qi 2 (Og ch n l h e g)/\IW h e g ch (Es ch n l)=QJ ch n l h e g))):=by
 intro hw;simp only[D,E];unfold P9 Og QJ;exact λ_=>⟨λh=>by rw[if_pos h,if_pos h,if_pos h]; exact⟨rfl,rfl,rfl,rfl,rfl,rfl⟩,λh _=>by rw[if_neg (by omega),if_neg (by omega),if_neg (by omega)]; exact⟨rfl,rfl,rfl,rfl,rfl,rfl⟩⟩
def r116:Cr PR:=K0 [r174,r175] 116 6 {ps:=[(false,hI),(false,hI),(false,[.sl hIn]),(true,hS)],rs:=[(true,hK),(true,hLm),(false,hI)],pre:=λ_=>True,out:=λa=>[rb [0,3] (P9 (I a 0 0) (I a 1 0) (L a 2 0) (I a 3 0) (I a 3 1) (I a 3 2)),rb [0,0,0] (Og (I a 0 0) (I a 1 0) (L a 2 0) (I a 3 0) (I a 3 1) (I a 3 2)),[.i (QJ (I a 0 0) (I a 1 0) (L a 2 0) (I a 3 0) (I a 3 1) (I a 3 2))]]} U λa=>Y (v116 (I a 0 0) (I a 1 0) (L a 2 0) (I a 3 0) (I a 3 1) (I a 3 2))
end Go.Sx
namespace Go.Sx
theorem v69 (bc:Int) (bd:List (List C)) (p:Int) (q:Int) (co:List (List C)) (f:Int) (t:Int) (n:Int) (a:Int) (k:Int):WD hIn [C.i bc,C.l bd,C.i p,C.i q,C.l co,C.i f,C.i t,C.i n,C.i a]/\InR .i64 k->True/\True/\Cn (bNot (FK f t n a)) (0=qi 0 (EE f t n a k)/\0=qi 1 (EE f t n a k)/\0=qi 2 (EE f t n a k)/\0=qi 3 (EE f t n a k)/\1=I5 f t n a k) (Cn (bLt k 0) (0=qi 0 (EE f t n a k)/\0=qi 1 (EE f t n a k)/\0=qi 2 (EE f t n a k)/\0=qi 3 (EE f t n a k)/\2=I5 f t n a k) (Cn (bLt 65536 k) (0=qi 0 (EE f t n a k)/\0=qi 1 (EE f t n a k)/\0=qi 2 (EE f t n a k)/\0=qi 3 (EE f t n a k)/\2=I5 f t n a k) (InR .i64 (iAdd a k)/\f=qi 0 (EE f t n a k)/\t=qi 1 (EE f t n a k)/\n=qi 2 (EE f t n a k)/\iMin n (iAdd a k)=qi 3 (EE f t n a k)/\0=I5 f t n a k))):=by
 intro hw;have no:∀ {x:Int},x≠0->I5 f t n a k=x->0=qi 0 (EE f t n a k)/\0=qi 1 (EE f t n a k)/\0=qi 2 (EE f t n a k)/\0=qi 3 (EE f t n a k)/\x=I5 f t n a k:=λh0 h1=>by
  unfold EE; rw[if_neg (by omega),h1]; exact⟨rfl,rfl,rfl,rfl,rfl⟩
 simp only[D,E];refine⟨λh=>no (by omega) (if_pos h),λh=>⟨λc=>no (by omega) (by unfold I5; rw[if_neg (by simp[h]),if_pos (.inl c)]),λc=>⟨λd=>no (by omega) (by unfold I5; rw[if_neg (by simp[h]),if_pos (.inr d)]),λd=> ?_⟩⟩⟩;have v:=RJ h;have e:I5 f t n a k=0:=by unfold I5; rw[if_neg (by simp[h]),if_neg (by omega)]
 unfold EE; rw[if_pos e,e];exact⟨by simp only[InR]; omega,rfl,rfl,rfl,rfl,rfl⟩
def r69:Cr PR:=K0 [r123] 69 6 {ps:=[(true,hIn),(false,hI)],rs:=[(true,hA),(false,hI)],pre:=λ_=>True,out:=λa=>[rb [0,0,0,0] (EE (I a 0 5) (I a 0 6) (I a 0 7) (I a 0 8) (I a 1 0)),[.i (I5 (I a 0 5) (I a 0 6) (I a 0 7) (I a 0 8) (I a 1 0))]]} U λa=>Y (v69 (I a 0 0) (L a 0 1) (I a 0 2) (I a 0 3) (L a 0 4) (I a 0 5) (I a 0 6) (I a 0 7) (I a 0 8) (I a 1 0))
end Go.Sx

set_option linter.unusedVariables false
set_option linter.unusedSimpArgs false
set_option maxRecDepth 100000
set_option maxHeartbeats 4000000
namespace Go
open Go.Sx
def AC (s:List C):List C:=sg 4 [0,0,0,0,0,0,3] s
def DV (s:List C):List C:=sg 11 [0,0,0,0,3] s
def Aaf:List C:=[.i 0,.i 0,.i 0,.i 0,.l []]
def Ry (s:List C):Bool:=if qi 0 s=1 then decide (Ap (AC s)<=qi 2 s)&&OG (DV s) Aaf else if qi 0 s=2 then Dx (DV s)&&decide (qi 12 s=qi 2 s/\qi 11 s=qi 4 s)else false
def BB (s:List C):Bool:=decide (1<=qi 1 s/\qi 1 s<=7/\1<=qi 2 s/\qi 2 s<=65536/\0<=qi 3 s/\qi 3 s<=qi 2 s)&&(AU (AC s)&&(decide (qi 7 s=0/\0<=qi 16 s/\0<=qi 17 s/\0<=qi 18 s)&&Ry s))
def KC (s:List C) (st:Int) (r q:List C) (w p m:Int):List C:= .i (qi 0 s):: .i st:: .i (qi 2 s):: .i (qi 3 s)::sga 0 [0,0,0,0,0,0,3] r (sga 0 [0,0,0,0,3] q [.i w,.i p,.i m])
def Ny (dir ch n d cap st:Int):List C:= .i dir:: .i 1:: .i cap:: .i st::sga 0 [0,0,0,0,0,0,3] (FC ch n d) (sga 0 [0,0,0,0,3] (if dir=2 then Nj ch cap else[]) [.i 0,.i 0,.i 0])
def NL (dir ch n d cap st:Int):Int:=if BB (Ny dir ch n d cap st)=true then 0 else 1
def DY (x:List C):Prop:=[C.i 0,C.i 0,C.i 0,C.i 0,C.i 0,C.i 0,C.i 0,C.i 0,C.i 0,C.i 0,C.l [],C.i 0,C.i 0,C.i 0,C.i 0,C.l [],C.i 0,C.i 0,C.i 0]=sg 0 [0,0,0,0,0,0,0,0,0,0,3,0,0,0,0,3,0,0,0] x
def NH (dir ch n d cap st:Int):List C:=if BB (Ny dir ch n d cap st)=true then Ny dir ch n d cap st else[]
def EU (s:List C):Int:=if BB s=false then 0 else if qi 0 s=1 then Ap (AC s)else EF (DV s)
def O1 (s:List C):Int:=if BB s=false then 0 else qi 2 s-EU s
def Gx (s:List C) (ch:Int) (da:List (List C)):Int:=if(BB s=true/\qi 0 s=1)/\AQ ch da=true then(if ch≠qi 4 s then 11 else if 5<=qi 1 s then 9 else if O1 s<AO ch da then 10 else DR (AC s) ch da)else 1
def IB (s:List C) (ch:Int) (da:List (List C)):List C:=if Gx s ch da=0 then KC s (if qi 1 s=1/\0<AO ch da then 2 else qi 1 s) (DD (AC s) ch da) (DV s) (Aaj .i64 (qi 16 s+AO ch da)) (qi 17 s) (qi 18 s)else[]
def Qe (s:List C):List C:=KC s (qi 1 s) (FC (qi 4 s) (qi 5 s) (qi 6 s)) (if qi 0 s=2 then PW (DV s)else DV s) (qi 16 s) (qi 17 s) (qi 18 s)
def Gf (s:List C) (c:Int):Bool:=if c=1 then decide (qi 1 s=2∨(qi 1 s=1/\(qi 0 s=2∨qi 3 s=0)))else if c=2 then decide (qi 1 s=3)else if c=3 then decide (qi 1 s=4)else if c=4 then decide (qi 0 s=1/\2<=qi 1 s/\qi 1 s<=4)else if c=5 then decide (qi 1 s<=5)else if c=6 then decide (qi 1 s≠7)else decide (qi 1 s<=4)
def QW (s:List C) (c:Int):Int:=if c=1 then 3 else if c=2 then 4 else if c=3 then 3 else if c=4 then 5 else if c=5 then 6 else if c=6 then 7 else if qi 1 s=2 then 1 else qi 1 s
def TY (s:List C) (st:Int):List C:=KC s st (AC s) (DV s) (qi 16 s) (qi 17 s) (qi 18 s)
def E8 (s:List C) (c:Int):List C:=TY s (QW s c)
def F5 (s:List C) (c:Int):Int:=if BB s=false∨c<1∨7<c then 1 else if Gf s c=false then 9 else if(c=1/\qi 1 s=2/\qi 0 s=1)/\EU (TY s 3)<qi 3 s then 4 else 0
def IJ (s:List C) (c:Int):List C:=if F5 s c=0 then(if 5<=c then Qe (E8 s c)else E8 s c)else[]
def Oi (s:List C) (n:Int):Int:=min (GR (Bd (AC s)) (EU s)) n
def Ji (s:List C) (n:Int):Int:=if qi 1 s=3 then n-Oi s n else 0
def KI (s:List C) (n:Int):Int:=if qi 1 s=3 then EG (AC s) (Oi s n)else if qi 1 s=5 then Hg (AC s) n else 0
def D5 (s:List C) (n:Int):Int:=if BB s=true/\qi 0 s=1 then(if n<0∨65536<n then 2 else KI s n)else 1
def FN (s:List C) (n:Int):List (List C):=if qi 1 s=3 then F7 (AC s) (Oi s n)else if qi 1 s=5 then ql 1 (ED (AC s) n)else[]
def G7 (s:List C) (n:Int):Int:=if qi 1 s=3 then G5 (AC s) (Oi s n)else if qi 1 s=5 then qi 0 (ED (AC s) n)else qi 4 s
def ML (s:List C) (n:Int):List C:=if qi 1 s=3 then Jf (AC s) (Oi s n)else if qi 1 s=5 then Kz (AC s) n else AC s
def He (s:List C) (n:Int):List C:=KC s (qi 1 s) (ML s n) (DV s) (qi 16 s) (qi 17 s) (qi 18 s)
def QI (s:List C) (n:Int):Int:=if qi 1 s=3∨qi 1 s=5 then Aaj .i64 (qi 17 s+n)else qi 17 s
def QH (s:List C) (n:Int):Int:=if qi 1 s=3∨qi 1 s=5 then Aaj .i64 (qi 18 s+Ji s n)else qi 18 s
def GG (s:List C) (n:Int):List C:=KC s (qi 1 s) (ML s n) (DV s) (qi 16 s) (QI s n) (QH s n)
def LD (s:List C) (n:Int):List C:=KC s (if qi 1 s=5/\ql 6 (ML s n)=[]then 6 else qi 1 s) (ML s n) (DV s) (qi 16 s) (QI s n) (QH s n)
def Ha (s:List C) (n:Int):Int:=if D5 s n=0 then Ji s n else 0
def Jz (s:List C) (n:Int):List C:=if D5 s n=0 then LD s n else[]
def EL (s:List C) (n:Int):List C:=if D5 s n=0 then[.i (G7 s n),.l (FN s n++EI (qi 4 s) (n-AO (G7 s n) (FN s n)))]else[]
def Ik (s:List C) (ch:Int) (da:List (List C)):Int:=if(BB s=true/\qi 0 s=2)/\AQ ch da=true then(if ch≠qi 4 s then 11 else if qi 1 s≠3 then 0 else if MN (AC s) ch da≠0 then MN (AC s) ch da else H7 (DV s) (qi 0 (Dq (AC s) ch da)) (ql 1 (Dq (AC s) ch da)))else 1
def Jq (s:List C) (ch:Int) (da:List (List C)):Int:=if Ik s ch da=0/\qi 1 s=3 then JX (DV s) (qi 0 (Dq (AC s) ch da)) (ql 1 (Dq (AC s) ch da))else 0
def JG (s:List C) (ch:Int) (da:List (List C)):List C:=if Ik s ch da=0 then(if qi 1 s=3 then KC s (qi 1 s) (PX (AC s) ch da) (Oy (DV s) (qi 0 (Dq (AC s) ch da)) (ql 1 (Dq (AC s) ch da))) (qi 16 s) (Aaj .i64 (qi 17 s+AO ch da)) (Aaj .i64 (qi 18 s+Jq s ch da))else s)else[]
end Go
namespace Go
open Go.Sx
theorem Yk (r:List C):0<=Ap r/\Ap r<=65536:=by
 unfold Ap
 cases h:AU r
 · exact⟨Int.le_refl _,by simp⟩
 · have c:=Du (Ei h).2;exact⟨Int.ediv_nonneg (by omega) (by omega),c.2.2.2⟩
theorem Yl (r:List C):0<=EF r/\EF r<=65536:=by
 cases h:Dx r
 · unfold EF; rw[h]; simp
 · have v:=Rx h;rw[SN h]; omega
theorem XV (s:List C):0<=EU s/\EU s<=65536:=by
 have a:=Yk (AC s);have b:=Yl (DV s);unfold EU;split
 · omega
 split<;>omega
theorem VB {s:List C} (h:BB s=true):(1<=qi 1 s/\qi 1 s<=7/\1<=qi 2 s/\qi 2 s<=65536/\0<=qi 3 s/\qi 3 s<=qi 2 s)/\AU (AC s)=true/\(qi 7 s=0/\0<=qi 16 s/\0<=qi 17 s/\0<=qi 18 s)/\Ry s=true:=by
 simpa only[BB,Bool.and_eq_true,decide_eq_true_eq]using h
end Go
namespace Go.Sx
theorem v104 (s:List C):WD hY s->Cn (bLt (qi 1 s) 1) (false=BB s) (Cn (bLt 7 (qi 1 s)) (false=BB s) (Cn (bLt (qi 2 s) 1) (false=BB s) (Cn (bLt 65536 (qi 2 s)) (false=BB s) (Cn (bLt (qi 3 s) 0) (false=BB s) (Cn (bLt (qi 2 s) (qi 3 s)) (false=BB s) (True/\True/\Cn (bNot (AU (AC s))) (false=BB s) (Cn (bNe (qi 7 s) 0) (false=BB s) (Cn (bLt (qi 16 s) 0) (false=BB s) (Cn (bLt (qi 17 s) 0) (false=BB s) (Cn (bLt (qi 18 s) 0) (false=BB s) (Cn (bEq (qi 0 s) 1) (True/\(InR .i64 (Ap (AC s))->Cn (bLe (Ap (AC s)) (qi 2 s)) (True/\OG (DV s) [C.i 0,C.i 0,C.i 0,C.i 0,C.l []]=BB s) (false=BB s))) (Cn (bEq (qi 0 s) 2) (True/\Cn (Dx (DV s)) (Cn (bEq (qi 12 s) (qi 2 s)) (bEq (qi 11 s) (qi 4 s)=BB s) (false=BB s)) (false=BB s)) (false=BB s))))))))))))):=by
 intro hw;have no:¬(1<=qi 1 s/\qi 1 s<=7/\1<=qi 2 s/\qi 2 s<=65536/\0<=qi 3 s/\qi 3 s<=qi 2 s)->false=BB s:=λh=>by unfold BB; rw[decide_eq_false h]; rfl
 simp only[D,E];refine⟨λa=>no (by omega),λa1=>⟨λa=>no (by omega),λa2=>⟨λa=>no (by omega),λa3=>⟨λa=>no (by omega),λa4=>⟨λa=>no (by omega),λa5=>⟨λa=>no (by omega),λa6=> ?_⟩⟩⟩⟩⟩⟩;have e:BB s=(AU (AC s)&&(decide (qi 7 s=0/\0<=qi 16 s/\0<=qi 17 s/\0<=qi 18 s)&&Ry s)):=by unfold BB; rw[decide_eq_true (by omega),Bool.true_and]
 rw[e];refine⟨λh=>by rw[h]; rfl,λh=> ?_⟩;rw[h,Bool.true_and];have no2:¬(qi 7 s=0/\0<=qi 16 s/\0<=qi 17 s/\0<=qi 18 s)->false=(decide (qi 7 s=0/\0<=qi 16 s/\0<=qi 17 s/\0<=qi 18 s)&&Ry s):=λh=>by rw[decide_eq_false h]; rfl
 refine⟨λa=>no2 (by omega),λb1=>⟨λa=>no2 (by omega),λb2=>⟨λa=>no2 (by omega),λb3=>⟨λa=>no2 (by omega),λb4=> ?_⟩⟩⟩⟩;rw[decide_eq_true (by omega),Bool.true_and];unfold Ry;refine⟨λc _=> ?_,λc=>⟨λc2=>⟨λd=>⟨λf=> ?_,λf=> ?_⟩,λd=> ?_⟩,λc2=> ?_⟩⟩
 · rw[if_pos c]; exact⟨λd=>by rw[decide_eq_true d]; rfl,λd=>by rw[decide_eq_false (by omega)]; rfl⟩
 · rw[if_neg c,if_pos c2,d,Bool.true_and,decide_eq_decide]; omega
 · rw[if_neg c,if_pos c2,d,Bool.true_and]; exact(decide_eq_false (by omega)).symm
 · rw[if_neg c,if_pos c2,d]; rfl
 · rw[if_neg c,if_neg c2]
def r104:Cr PR:=K0 [r124,r125,r164,r163] 104 6 {ps:=[(true,hY)],rs:=[(false,[.bool])],pre:=λ_=>True,out:=λa=>[[.b (BB (arg 0 a))]]} U λa=>Y (v104 (arg 0 a))
end Go.Sx
namespace Go.Sx
theorem v58 (dir:Int) (ch:Int) (n:Int) (d:Int) (cap:Int) (st:Int):InR .i64 dir/\InR .i64 ch/\InR .i64 n/\InR .i64 d/\InR .i64 cap/\InR .i64 st->True/\(WD hR (FC ch n d)/\InR .i64 (J9 ch n d)->Cn (bEq dir 2) (True/\(WD hQ (Nj ch cap)/\InR .i64 (QK ch cap)->True/\True/\Cn (bNot (BB (C.i dir::C.i 1::C.i cap::C.i st::sga 0 [0,0,0,0,0,0,3] (FC ch n d) (sga 0 [0,0,0,0,3] (Nj ch cap) [C.i 0,C.i 0,C.i 0])))) (DY (NH dir ch n d cap st)/\1=NL dir ch n d cap st) (C.i dir::C.i 1::C.i cap::C.i st::sga 0 [0,0,0,0,0,0,3] (FC ch n d) (sga 0 [0,0,0,0,3] (Nj ch cap) [C.i 0,C.i 0,C.i 0])=sg 0 [0,0,0,0,0,0,0,0,0,0,3,0,0,0,0,3,0,0,0] (NH dir ch n d cap st)/\0=NL dir ch n d cap st))) (True/\True/\Cn (bNot (BB (C.i dir::C.i 1::C.i cap::C.i st::sga 0 [0,0,0,0,0,0,3] (FC ch n d) [C.i 0,C.i 0,C.i 0,C.i 0,C.l [],C.i 0,C.i 0,C.i 0]))) (DY (NH dir ch n d cap st)/\1=NL dir ch n d cap st) (C.i dir::C.i 1::C.i cap::C.i st::sga 0 [0,0,0,0,0,0,3] (FC ch n d) [C.i 0,C.i 0,C.i 0,C.i 0,C.l [],C.i 0,C.i 0,C.i 0]=sg 0 [0,0,0,0,0,0,0,0,0,0,3,0,0,0,0,3,0,0,0] (NH dir ch n d cap st)/\0=NL dir ch n d cap st))):=by
 intro hw;have z:BB (Ny dir ch n d cap st)=false->DY (NH dir ch n d cap st)/\1=NL dir ch n d cap st:=λh=>by
  unfold NH NL;rw[if_neg (by simp[h]),if_neg (by simp[h])]; exact⟨rfl,rfl⟩
 have y:BB (Ny dir ch n d cap st)=true->Ny dir ch n d cap st=sg 0 [0,0,0,0,0,0,0,0,0,0,3,0,0,0,0,3,0,0,0] (NH dir ch n d cap st)/\0=NL dir ch n d cap st:=λh=>by
  unfold NH NL;rw[if_pos h,if_pos h]; exact⟨rfl,rfl⟩
 simp only[D,E];refine λ_=>⟨λh _=> ?_,λh=> ?_⟩
 · have u:(C.i dir::C.i 1::C.i cap::C.i st::sga 0 [0,0,0,0,0,0,3] (FC ch n d) (sga 0 [0,0,0,0,3] (Nj ch cap) [C.i 0,C.i 0,C.i 0]))=Ny dir ch n d cap st:=by unfold Ny; rw[if_pos h]
   rw[u]; exact⟨z,y⟩
 · have u:(C.i dir::C.i 1::C.i cap::C.i st::sga 0 [0,0,0,0,0,0,3] (FC ch n d) [C.i 0,C.i 0,C.i 0,C.i 0,C.l [],C.i 0,C.i 0,C.i 0])=Ny dir ch n d cap st:=by unfold Ny; rw[if_neg h]; rfl
   rw[u]; exact⟨z,y⟩
def r58:Cr PR:=K0 [r97,r103,r104] 58 6 {ps:=[(false,hI),(false,hI),(true,hII),(false,hI),(false,hI)],rs:=[(true,hY),(false,hI)],pre:=λ_=>True,out:=λa=>[rb [0,0,0,0,0,0,0,0,0,0,3,0,0,0,0,3,0,0,0] (NH (I a 0 0) (I a 1 0) (I a 2 0) (I a 2 1) (I a 3 0) (I a 4 0)),[.i (NL (I a 0 0) (I a 1 0) (I a 2 0) (I a 2 1) (I a 3 0) (I a 4 0))]]} U λa=>Y (v58 (I a 0 0) (I a 1 0) (I a 2 0) (I a 2 1) (I a 3 0) (I a 4 0))
end Go.Sx
namespace Go.Sx
theorem v112 (s:List C):WD hY s->True/\True/\Cn (bNot (BB s)) (0=EU s) (Cn (bEq (qi 0 s) 1) (True/\(InR .i64 (Ap (AC s))->Ap (AC s)=EU s)) (True/\(InR .i64 (EF (DV s))->EF (DV s)=EU s))):=by
 intro hw;simp only[D,E];unfold EU;exact⟨λh=>by rw[if_pos h],λh=>⟨λc _=>by rw[if_neg (by simp[h]),if_pos c],λc _=>by rw[if_neg (by simp[h]),if_neg c]⟩⟩
def r112:Cr PR:=K0 [r104,r125,r167] 112 6 {ps:=[(true,hY)],rs:=[(false,hI)],pre:=λ_=>True,out:=λa=>[[.i (EU (arg 0 a))]]} U λa=>Y (v112 (arg 0 a))
end Go.Sx
namespace Go.Sx
theorem v110 (s:List C):WD hY s->True/\True/\Cn (bNot (BB s)) (0=O1 s) (True/\(InR .i64 (EU s)->InR .i64 (iSub (qi 2 s) (EU s))/\iSub (qi 2 s) (EU s)=O1 s)):=by
 intro hw;simp only[D,E];have b:=XV s;unfold O1;refine⟨λh=>by rw[if_pos h],λh _=> ?_⟩;have v:=(VB h).1;exact⟨by simp only[InR]; omega,by rw[if_neg (by simp[h])]⟩
def r110:Cr PR:=K0 [r104,r112] 110 6 {ps:=[(true,hY)],rs:=[(false,hI)],pre:=λ_=>True,out:=λa=>[[.i (O1 (arg 0 a))]]} U λa=>Y (v110 (arg 0 a))
end Go.Sx

set_option linter.unusedVariables false
set_option linter.unusedSimpArgs false
set_option maxRecDepth 100000
set_option maxHeartbeats 4000000
namespace Go.Sx
def Aj1 (s:List C) (ch:Int) (da:List (List C)):Prop:=True/\(InR .i64 (AO ch da)->sga 0 [0,0,0,0] s (sga 0 [0,0,0,0,0,0,3] (DD (AC s) ch da) (sga 11 [0,0,0,0,3] s (C.i (Aaj .i64 (iAdd (qi 16 s) (AO ch da)))::sg 17 [0,0] s)))=sg 0 [0,0,0,0,0,0,0,0,0,0,3,0,0,0,0,3,0,0,0] (IB s ch da)/\0=Gx s ch da)
theorem v62 (s:List C) (ch:Int) (da:List (List C)):WD hY s/\InR .i64 ch/\WL hW da->True->True/\Cn (BB s) (True/\Cn (bNot (bEq (qi 0 s) 1)) (DY (IB s ch da)/\1=Gx s ch da) (True/\True/\Cn (bNot (AQ ch da)) (DY (IB s ch da)/\1=Gx s ch da) (Cn (bNe ch (qi 4 s)) (DY (IB s ch da)/\11=Gx s ch da) (Cn (bLe 5 (qi 1 s)) (DY (IB s ch da)/\9=Gx s ch da) (True/\(InR .i64 (AO ch da)->True/\(InR .i64 (O1 s)->Cn (bLt (O1 s) (AO ch da)) (DY (IB s ch da)/\10=Gx s ch da) (True/\(WD hR (DD (AC s) ch da)/\InR .i64 (DR (AC s) ch da)->Cn (bNe (DR (AC s) ch da) 0) (DY (IB s ch da)/\DR (AC s) ch da=Gx s ch da) (Cn (bEq (qi 1 s) 1) (True/\(InR .i64 (AO ch da)->Cn (bLt 0 (AO ch da)) (True/\(InR .i64 (AO ch da)->C.i (qi 0 s)::C.i 2::C.i (qi 2 s)::C.i (qi 3 s)::sga 0 [0,0,0,0,0,0,3] (DD (AC s) ch da) (sga 11 [0,0,0,0,3] s (C.i (Aaj .i64 (iAdd (qi 16 s) (AO ch da)))::sg 17 [0,0] s))=sg 0 [0,0,0,0,0,0,0,0,0,0,3,0,0,0,0,3,0,0,0] (IB s ch da)/\0=Gx s ch da)) ((Aj1 s ch da)))) ((Aj1 s ch da)))))))))))) (True/\DY (IB s ch da)/\1=Gx s ch da):=by
 intro hw hp;delta Aj1;have no:∀ {x:Int},x≠0->Gx s ch da=x->DY (IB s ch da)/\x=Gx s ch da:=λh0 h1=>by
  unfold IB;rw[if_neg (by omega),h1]; exact⟨rfl,rfl⟩
 have n1:¬((BB s=true/\qi 0 s=1)/\AQ ch da=true)->Gx s ch da=1:=λh=>if_neg h;simp only[D,E];refine⟨λh=>⟨λa=>no (by omega) (n1 λb=>by omega),λa=>⟨λb=>no (by omega) (n1 λc=>by rw[c.2]at b; cases b),λb=> ?_⟩⟩,λh=>no (by omega) (n1 λb=>by rw[b.1.1]at h; cases h)⟩;have e:Gx s ch da=if ch≠qi 4 s then 11 else if 5<=qi 1 s then 9 else if O1 s<AO ch da then 10 else DR (AC s) ch da:=if_pos ⟨⟨h,a⟩,b⟩;refine⟨λc=>no (by omega) (by rw[e,if_pos c]),λc=>⟨λc1=>no (by omega) (by rw[e,if_neg (by omega),if_pos c1]),λc1 _ _=>⟨λc2=>no (by omega) (by rw[e,if_neg (by omega),if_neg c1,if_pos c2]),λc2 _=> ?_⟩⟩⟩;rw[if_neg (by omega),if_neg c1,if_neg c2]at e;refine⟨λc3=>no c3 e,λc3=> ?_⟩;rw[c3]at e;unfold IB;rw[if_pos e,e];refine⟨λd _=>⟨λd1 _=>⟨by rw[if_pos ⟨d,d1⟩]; rfl,rfl⟩,λd1 _=>⟨by rw[if_neg (λx=>d1 x.2)]; rfl,rfl⟩⟩,λd _=>⟨by rw[if_neg (λx=>d x.1)]; rfl,rfl⟩⟩
def r62:Cr PR:=Kw (λ_=>true) [r104,r108,r109,r110,r111] 62 6 {ps:=[(true,hY),(true,hK)],rs:=[(true,hY),(false,hI)],pre:=λ_=>True,out:=λa=>[rb [0,0,0,0,0,0,0,0,0,0,3,0,0,0,0,3,0,0,0] (IB (arg 0 a) (I a 1 0) (L a 1 1)),[.i (Gx (arg 0 a) (I a 1 0) (L a 1 1))]]} U λa=>Y (v62 (arg 0 a) (I a 1 0) (L a 1 1))
end Go.Sx
namespace Go.Sx
theorem v122 (s:List C) (ch:Int) (da:List (List C)):WD hY s/\InR .i64 ch/\WL hW da->True->True/\Cn (BB s) (True/\Cn (bNot (bEq (qi 0 s) 2)) (0=Jq s ch da/\DY (JG s ch da)/\1=Ik s ch da) (True/\True/\Cn (bNot (AQ ch da)) (0=Jq s ch da/\DY (JG s ch da)/\1=Ik s ch da) (Cn (bNe ch (qi 4 s)) (0=Jq s ch da/\DY (JG s ch da)/\11=Ik s ch da) (Cn (bNe (qi 1 s) 3) (0=Jq s ch da/\sg 0 [0,0,0,0,0,0,0,0,0,0,3,0,0,0,0,3,0,0,0] s=sg 0 [0,0,0,0,0,0,0,0,0,0,3,0,0,0,0,3,0,0,0] (JG s ch da)/\0=Ik s ch da) (True/\(InR .i64 (qi 0 (Dq (AC s) ch da))/\WL hW (ql 1 (Dq (AC s) ch da))/\WD hR (PX (AC s) ch da)/\InR .i64 (MN (AC s) ch da)->Cn (bNe (MN (AC s) ch da) 0) (0=Jq s ch da/\DY (JG s ch da)/\MN (AC s) ch da=Ik s ch da) (True/\(WD hQ (Oy (DV s) (qi 0 (Dq (AC s) ch da)) (ql 1 (Dq (AC s) ch da)))/\InR .i64 (JX (DV s) (qi 0 (Dq (AC s) ch da)) (ql 1 (Dq (AC s) ch da)))/\InR .i64 (H7 (DV s) (qi 0 (Dq (AC s) ch da)) (ql 1 (Dq (AC s) ch da)))->Cn (bNe (H7 (DV s) (qi 0 (Dq (AC s) ch da)) (ql 1 (Dq (AC s) ch da))) 0) (0=Jq s ch da/\DY (JG s ch da)/\H7 (DV s) (qi 0 (Dq (AC s) ch da)) (ql 1 (Dq (AC s) ch da))=Ik s ch da) (True/\(InR .i64 (AO ch da)->JX (DV s) (qi 0 (Dq (AC s) ch da)) (ql 1 (Dq (AC s) ch da))=Jq s ch da/\sga 0 [0,0,0,0] s (sga 0 [0,0,0,0,0,0,3] (PX (AC s) ch da) (sga 0 [0,0,0,0,3] (Oy (DV s) (qi 0 (Dq (AC s) ch da)) (ql 1 (Dq (AC s) ch da))) [C.i (qi 16 s),C.i (Aaj .i64 (iAdd (qi 17 s) (AO ch da))),C.i (Aaj .i64 (iAdd (qi 18 s) (JX (DV s) (qi 0 (Dq (AC s) ch da)) (ql 1 (Dq (AC s) ch da)))))]))=sg 0 [0,0,0,0,0,0,0,0,0,0,3,0,0,0,0,3,0,0,0] (JG s ch da)/\0=Ik s ch da)))))))))) (True/\0=Jq s ch da/\DY (JG s ch da)/\1=Ik s ch da):=by
 intro hw hp;have no:∀ {x:Int},x≠0->Ik s ch da=x->0=Jq s ch da/\DY (JG s ch da)/\x=Ik s ch da:=λh0 h1=>by
  unfold JG Jq;rw[if_neg (by omega),if_neg (by omega),h1]; exact⟨rfl,rfl,rfl⟩
 have n1:¬((BB s=true/\qi 0 s=2)/\AQ ch da=true)->Ik s ch da=1:=λh=>if_neg h;simp only[D,E];refine⟨λh=>⟨λa=>no (by omega) (n1 λb=>by omega),λa=>⟨λb=>no (by omega) (n1 λc=>by rw[c.2]at b; cases b),λb=> ?_⟩⟩,λh=>no (by omega) (n1 λb=>by rw[b.1.1]at h; cases h)⟩;have e:Ik s ch da=if ch≠qi 4 s then 11 else if qi 1 s≠3 then 0 else if MN (AC s) ch da≠0 then MN (AC s) ch da else H7 (DV s) (qi 0 (Dq (AC s) ch da)) (ql 1 (Dq (AC s) ch da)):=if_pos ⟨⟨h,a⟩,b⟩;refine⟨λc=>no (by omega) (by rw[e,if_pos c]),λc=>⟨λc1=> ?_,λc1 _=>⟨λc2=>no c2 (by rw[e,if_neg (by omega),if_neg (by omega),if_pos c2]),λc2 _=>⟨λc3=>no c3 (by rw[e,if_neg (by omega),if_neg (by omega),if_neg (by omega)]),λc3 _=> ?_⟩⟩⟩⟩
 · rw[if_neg (by omega),if_pos (by omega)]at e;unfold Jq JG;rw[if_neg (by omega),if_pos e,if_neg (by omega),e]; exact⟨rfl,rfl,rfl⟩
 · rw[if_neg (by omega),if_neg (by omega),if_neg (by omega),c3]at e;have l:Jq s ch da=JX (DV s) (qi 0 (Dq (AC s) ch da)) (ql 1 (Dq (AC s) ch da)):=if_pos ⟨e,by omega⟩;unfold JG;rw[if_pos e,if_pos (by omega),l,e]; exact⟨rfl,rfl,rfl⟩
def r122:Cr PR:=Kw (λ_=>true) [r104,r108,r183,r184,r109] 122 6 {ps:=[(true,hY),(true,hK)],rs:=[(false,hI),(true,hY),(false,hI)],pre:=λ_=>True,out:=λa=>[[.i (Jq (arg 0 a) (I a 1 0) (L a 1 1))],rb [0,0,0,0,0,0,0,0,0,0,3,0,0,0,0,3,0,0,0] (JG (arg 0 a) (I a 1 0) (L a 1 1)),[.i (Ik (arg 0 a) (I a 1 0) (L a 1 1))]]} U λa=>Y (v122 (arg 0 a) (I a 1 0) (L a 1 1))
end Go.Sx
namespace Go.Sx
theorem v113 (s:List C):WD hY s->True/\(WD hR (FC (qi 4 s) (qi 5 s) (qi 6 s))/\InR .i64 (J9 (qi 4 s) (qi 5 s) (qi 6 s))->Cn (bEq (qi 0 s) 2) (True/\(WD hQ (PW (DV s))/\InR .i64 (RI (DV s))->sga 0 [0,0,0,0] s (sga 0 [0,0,0,0,0,0,3] (FC (qi 4 s) (qi 5 s) (qi 6 s)) (sga 0 [0,0,0,0,3] (PW (DV s)) (sg 16 [0,0,0] s)))=sg 0 [0,0,0,0,0,0,0,0,0,0,3,0,0,0,0,3,0,0,0] (Qe s))) (sga 0 [0,0,0,0] s (sga 0 [0,0,0,0,0,0,3] (FC (qi 4 s) (qi 5 s) (qi 6 s)) (sg 11 [0,0,0,0,3,0,0,0] s))=sg 0 [0,0,0,0,0,0,0,0,0,0,3,0,0,0,0,3,0,0,0] (Qe s))):=by
 intro hw;simp only[D,E];unfold Qe;exact λ_=>⟨λh _=>by rw[if_pos h]; rfl,λh=>by rw[if_neg h]; rfl⟩
def r113:Cr PR:=K0 [r97,r168] 113 6 {ps:=[(true,hY)],rs:=[(true,hY)],pre:=λ_=>True,out:=λa=>[rb [0,0,0,0,0,0,0,0,0,0,3,0,0,0,0,3,0,0,0] (Qe (arg 0 a))]} U λa=>Y (v113 (arg 0 a))
end Go.Sx
namespace Go.Sx
def A64 (s:List C) (c:Int):FuncId->Nat->LoopAnn:=λ_ ii=>bif Nat.beq ii 1000028 then .cut Unit (λ_=>True) (λ_=>[(7,.bool (Gf s c))]) (λ_=>[(0,.box (ofCs hY (E8 s c)) 152)]) [0] [0,1,2,4,5,6,7,18,22,23,42,47,52,66,71,76,81,84,103,106]else bif Nat.beq ii 1000032 then .cut Unit (λ_=>F5 s c=0) (λ_=>[]) (λ_=>[(0,.box (ofCs hY (E8 s c)) 152)]) [0] [0,1,2,4,5,6,7,18,22,23,42,47,52,66,71,76,81,84,103,106]else .unroll 200
def AhZ (s:List C) (c:Int):Prop:=Sm (sg 0 [0,0,0,0,0,0,0,0,0,0,3,0,0,0,0,3,0,0,0] s)/\Sm c/\Sm (qi 1 s)/\Sm (Gf s c)/\∃(y:Unit),F5 s c=0/\Sm (sg 0 [0,0,0,0,0,0,0,0,0,0,3,0,0,0,0,3,0,0,0] (E8 s c))
def AhY (s:List C) (c:Int):Prop:=C.i (qi 0 s)::C.i 3::sg 2 [0,0,0,0,0,0,0,0,3,0,0,0,0,3,0,0,0] s=sg 0 [0,0,0,0,0,0,0,0,0,0,3,0,0,0,0,3,0,0,0] (E8 s c)
def Aj0 (s:List C) (c:Int):Prop:=C.i (qi 0 s)::C.i 5::sg 2 [0,0,0,0,0,0,0,0,3,0,0,0,0,3,0,0,0] s=sg 0 [0,0,0,0,0,0,0,0,0,0,3,0,0,0,0,3,0,0,0] (E8 s c)
def AjZ (s:List C) (c:Int):Prop:=Sm (sg 0 [0,0,0,0,0,0,0,0,0,0,3,0,0,0,0,3,0,0,0] s)/\Sm c/\Sm (qi 1 s)/\∃(y:Unit),True/\false=Gf s c/\(Aj0 s c)
def AjY (s:List C) (c:Int):Prop:=Sm (sg 0 [0,0,0,0,0,0,0,0,0,0,3,0,0,0,0,3,0,0,0] s)/\Sm c/\Sm (qi 1 s)/\∃(y:Unit),True/\true=Gf s c/\(AhY s c)
def AjX (s:List C) (c:Int):Prop:=sg 0 [0,0,0,0,0,0,0,0,0,0,3,0,0,0,0,3,0,0,0] s=sg 0 [0,0,0,0,0,0,0,0,0,0,3,0,0,0,0,3,0,0,0] (E8 s c)
theorem v64 (s:List C) (c:Int):WD hY s/\InR .i64 c->True/\True/\Cn (bNot (BB s)) (DY (IJ s c)/\1=F5 s c) (Cn (bLt c 1) (DY (IJ s c)/\1=F5 s c) (Cn (bLt 7 c) (DY (IJ s c)/\1=F5 s c) (Cn (bEq c 1) (Cn (bEq (qi 1 s) 2) ((AjY s c)) (Cn (bEq (qi 1 s) 1) (Cn (bEq (qi 0 s) 2) ((AjY s c)) (Sm (sg 0 [0,0,0,0,0,0,0,0,0,0,3,0,0,0,0,3,0,0,0] s)/\Sm c/\Sm (qi 1 s)/\∃(y:Unit),True/\bEq (qi 3 s) 0=Gf s c/\(AhY s c))) (Sm (sg 0 [0,0,0,0,0,0,0,0,0,0,3,0,0,0,0,3,0,0,0] s)/\Sm c/\Sm (qi 1 s)/\∃(y:Unit),True/\false=Gf s c/\(AhY s c)))) (Cn (bEq c 2) (Sm (sg 0 [0,0,0,0,0,0,0,0,0,0,3,0,0,0,0,3,0,0,0] s)/\Sm c/\Sm (qi 1 s)/\∃(y:Unit),True/\bEq (qi 1 s) 3=Gf s c/\C.i (qi 0 s)::C.i 4::sg 2 [0,0,0,0,0,0,0,0,3,0,0,0,0,3,0,0,0] s=sg 0 [0,0,0,0,0,0,0,0,0,0,3,0,0,0,0,3,0,0,0] (E8 s c)) (Cn (bEq c 3) (Sm (sg 0 [0,0,0,0,0,0,0,0,0,0,3,0,0,0,0,3,0,0,0] s)/\Sm c/\Sm (qi 1 s)/\∃(y:Unit),True/\bEq (qi 1 s) 4=Gf s c/\(AhY s c)) (Cn (bEq c 4) (Cn (bEq (qi 0 s) 1) (Cn (bLe 2 (qi 1 s)) (Sm (sg 0 [0,0,0,0,0,0,0,0,0,0,3,0,0,0,0,3,0,0,0] s)/\Sm c/\Sm (qi 1 s)/\∃(y:Unit),True/\bLe (qi 1 s) 4=Gf s c/\(Aj0 s c)) ((AjZ s c))) ((AjZ s c))) (Cn (bEq c 5) (Sm (sg 0 [0,0,0,0,0,0,0,0,0,0,3,0,0,0,0,3,0,0,0] s)/\Sm c/\Sm (qi 1 s)/\∃(y:Unit),True/\bLe (qi 1 s) 5=Gf s c/\C.i (qi 0 s)::C.i 6::sg 2 [0,0,0,0,0,0,0,0,3,0,0,0,0,3,0,0,0] s=sg 0 [0,0,0,0,0,0,0,0,0,0,3,0,0,0,0,3,0,0,0] (E8 s c)) (Cn (bEq c 6) (Sm (sg 0 [0,0,0,0,0,0,0,0,0,0,3,0,0,0,0,3,0,0,0] s)/\Sm c/\Sm (qi 1 s)/\∃(y:Unit),True/\bNe (qi 1 s) 7=Gf s c/\C.i (qi 0 s)::C.i 7::sg 2 [0,0,0,0,0,0,0,0,3,0,0,0,0,3,0,0,0] s=sg 0 [0,0,0,0,0,0,0,0,0,0,3,0,0,0,0,3,0,0,0] (E8 s c)) (Cn (bEq c 7) (Cn (bEq (qi 1 s) 2) (Sm (sg 0 [0,0,0,0,0,0,0,0,0,0,3,0,0,0,0,3,0,0,0] s)/\Sm c/\Sm (qi 1 s)/\∃(y:Unit),True/\bLe (qi 1 s) 4=Gf s c/\C.i (qi 0 s)::C.i 1::sg 2 [0,0,0,0,0,0,0,0,3,0,0,0,0,3,0,0,0] s=sg 0 [0,0,0,0,0,0,0,0,0,0,3,0,0,0,0,3,0,0,0] (E8 s c)) (Sm (sg 0 [0,0,0,0,0,0,0,0,0,0,3,0,0,0,0,3,0,0,0] s)/\Sm c/\Sm (qi 1 s)/\∃(y:Unit),True/\bLe (qi 1 s) 4=Gf s c/\(AjX s c))) (Sm (sg 0 [0,0,0,0,0,0,0,0,0,0,3,0,0,0,0,3,0,0,0] s)/\Sm c/\Sm (qi 1 s)/\∃(y:Unit),True/\false=Gf s c/\(AjX s c))))))))/\∀(x:Unit),True->WD hY (E8 s c)->True/\Cn (bNot (Gf s c)) (DY (IJ s c)/\9=F5 s c) (Cn (bEq c 1) (Cn (bEq (qi 1 s) 2) (Cn (bEq (qi 0 (E8 s c)) 1) (True/\(InR .i64 (EU (E8 s c))->Cn (bLt (EU (E8 s c)) (qi 3 (E8 s c))) (DY (IJ s c)/\4=F5 s c) ((AhZ s c)))) ((AhZ s c))) ((AhZ s c))) ((AhZ s c))/\∀(x:Unit),F5 s c=0->WD hY (E8 s c)->Cn (bLe 5 c) (True/\(WD hY (Qe (E8 s c))->sg 0 [0,0,0,0,0,0,0,0,0,0,3,0,0,0,0,3,0,0,0] (Qe (E8 s c))=sg 0 [0,0,0,0,0,0,0,0,0,0,3,0,0,0,0,3,0,0,0] (IJ s c)/\0=F5 s c)) (sg 0 [0,0,0,0,0,0,0,0,0,0,3,0,0,0,0,3,0,0,0] (E8 s c)=sg 0 [0,0,0,0,0,0,0,0,0,0,3,0,0,0,0,3,0,0,0] (IJ s c)/\0=F5 s c))))):=by
 intro hw;delta AhZ AhY Aj0 AjZ AjY AjX;have no:∀ {x:Int},x≠0->F5 s c=x->DY (IJ s c)/\x=F5 s c:=λh0 h1=>by
  unfold IJ;rw[if_neg (by omega),h1]; exact⟨rfl,rfl⟩
 have st:∀ {x:Bool} {t:Int},Gf s c=x->QW s c=t->∃_:Unit,x=Gf s c/\(C.i (qi 0 s)::C.i t::sg 2 [0,0,0,0,0,0,0,0,3,0,0,0,0,3,0,0,0] s)=sg 0 [0,0,0,0,0,0,0,0,0,0,3,0,0,0,0,3,0,0,0] (E8 s c):=λh1 h2=>⟨(),h1.symm,by unfold E8; rw[h2]; rfl⟩
 simp only[D,E];refine⟨λh=>no (by omega) (if_pos (.inl h)),λh=>⟨λa=>no (by omega) (if_pos (.inr (.inl a))),λa=>⟨λb=>no (by omega) (if_pos (.inr (.inr b))),λb=>⟨⟨λh1=>⟨λd=>st ?_ ?_,λd=>⟨λd1=>⟨λd2=>st ?_ ?_,λd2=>st ?_ ?_⟩,λd1=>st ?_ ?_⟩⟩,λh1=>⟨λh2=>st ?_ ?_,λh2=>⟨λh3=>st ?_ ?_,λh3=>⟨λh4=>⟨λd=>⟨λd1=>st ?_ ?_,λd1=>st ?_ ?_⟩,λd=>st ?_ ?_⟩,λh4=>⟨λh5=>st ?_ ?_,λh5=>⟨λh6=>st ?_ ?_,λh6=>⟨λh7=>⟨λd=>st ?_ ?_,λd=>⟨(),?_,?_⟩⟩,λh7=>by omega⟩⟩⟩⟩⟩⟩⟩,?_⟩⟩⟩⟩
 all_goals (try subst c)
 all_goals (try (first|(simp[QW]; done)|(simp[QW, *]; done)|(simp[Gf]; done)|(simp[Gf, *]; done)))
 · have t:QW s 7=qi 1 s:=by simp[QW,d]
   unfold E8; rw[t]; rfl
 · intro _ _;have e:F5 s c=if Gf s c=false then 9 else if(c=1/\qi 1 s=2/\qi 0 s=1)/\EU (TY s 3)<qi 3 s then 4 else 0:=if_neg (by simp[h]; omega);refine⟨λd=>no (by omega) (by rw[e,if_pos d]),λd=> ?_⟩;rw[if_neg (by simp[d])]at e;have z:¬((c=1/\qi 1 s=2/\qi 0 s=1)/\EU (TY s 3)<qi 3 s)->∃_:Unit,F5 s c=0:=λx=>⟨(),by rw[e,if_neg x]⟩
   refine⟨⟨λc1=>⟨λd1=>⟨λd2 _=> ?_,λd2=>z λx=>d2 x.1.2.2⟩,λd1=>z λx=>d1 x.1.2.1⟩,λc1=>z λx=>c1 x.1.1⟩,λ_ k _=>⟨λf _=> ?_,λf=> ?_⟩⟩
   · subst c1;exact⟨λl=>no (by omega) (by rw[e,if_pos ⟨⟨rfl,d1,d2⟩,l⟩]),λl=>z λx=>l x.2⟩
   · unfold IJ; rw[if_pos k,if_pos f,k]; exact⟨rfl,rfl⟩
   · unfold IJ; rw[if_pos k,if_neg f,k]; exact⟨rfl,rfl⟩
def r64:Cr PR:=K0 [r104,r112,r113] 64 6 {ps:=[(true,hY),(false,hI)],rs:=[(true,hY),(false,hI)],pre:=λ_=>True,out:=λa=>[rb [0,0,0,0,0,0,0,0,0,0,3,0,0,0,0,3,0,0,0] (IJ (arg 0 a) (I a 1 0)),[.i (F5 (arg 0 a) (I a 1 0))]]} (λa=>A64 (arg 0 a) (I a 1 0)) λa=>Y (v64 (arg 0 a) (I a 1 0))
end Go.Sx
namespace Go
open Go.Sx
theorem XD (ch n:Int):((EI ch n).length:Int)<=1000000000:=by
 unfold EI I9;split
 · rename_i c;have m:=Aap (x:=ch) (X:=8) (y:=n) (Y:=65536) (by omega) (by omega) (by omega) (by omega);have z:(IR (ch*n)).length=(ch*n).toNat:=List.length_replicate;rw[if_pos rfl,z]; omega
 · rw[if_neg (by omega)]; decide
theorem VH {r:List C} {n:Int} (h:AU r=true) (h1:n<=65536):((Fq r n).length:Int)<=1000000000:=by
 have c:=Du (Ei h).2;have l:=Q7 r n (by omega);have m:=Aap (x:=(n.toNat:Int)) (X:=65536) (y:=qi 0 r) (Y:=8) (by omega) (by omega) (by omega) (by omega);omega
theorem Vu (r:List C):∀(m:Nat) (k:Int),OD r m k<=k+m
 |0,k=>by simp[OD]
 |m+1,k=>by
  have:=Vu r m (k+1);unfold OD;split<;>omega
theorem X7 {s:List C} {n:Int} (h:BB s=true) (e0:D5 s n=0):((FN s n).length:Int)<=1000000000:=by
 have v:=(VB h).2.1;unfold D5 at e0;split at e0
 · split at e0
   · omega
   · unfold FN;split
     · unfold F7;split
       · rename_i k;unfold EG at k;rw[if_neg (by simp[v])]at k;exact VH v (by split at k<;>omega)
       · decide
     split
     · have f:=Vu (AC s) n.toNat 0;unfold ED;split
       · show((Fq (AC s) (O7 (AC s) n)).length:Int)<=_;exact VH v (by unfold O7; omega)
       · decide
     · decide
 · omega
end Go
namespace Go.Sx
def A114 (s:List C) (n:Int):FuncId->Nat->LoopAnn:=λ_ ii=>bif Nat.beq ii 1000016 then .on (λsv0=>match sv0.tmps.getD 10 .undef with| .ref kk _=> .cut Unit (λ_=>True) (λ_=>[(9,.int .i64 (Ji s n)),(11,.int .i64 (KI s n))]) (λ_=>[(0,.box (ofCs hY (He s n)) 152),(kk,.box [.int .i64 (G7 s n),.sl hW (FN s n)] 95)]) [0,kk] [0,1,2,4,5,6,7,8,9,10,11,14,18,26,35,36,62,74,85,105]|_=> .unroll 200)else bif Nat.beq ii 1000021 then .on (λsv0=>match sv0.tmps.getD 10 .undef with| .ref kk _=> .cut Unit (λ_=>D5 s n=0) (λ_=>[]) (λ_=>[(0,.box (ofCs hY (GG s n)) 152),(kk,.box [.int .i64 (G7 s n),.sl hW (FN s n)] 95)]) [0,kk] [0,1,2,4,5,6,7,8,9,10,11,14,18,26,35,36,62,74,85,105]|_=> .unroll 200)else bif Nat.beq ii 1000023 then .on (λsv0=>match sv0.tmps.getD 10 .undef with| .ref kk _=> .cut Unit (λ_=>D5 s n=0) (λ_=>[]) (λ_=>[(0,.box (ofCs hY (LD s n)) 152),(kk,.box [.int .i64 (G7 s n),.sl hW (FN s n)] 95)]) [0,kk] [0,1,2,4,5,6,7,8,9,10,11,14,18,26,35,36,62,74,85,105]|_=> .unroll 200)else .unroll 200
def Air (s:List C) (n:Int):Prop:=Sm (sg 0 [0,0,0,0,0,0,0,0,0,0,3,0,0,0,0,3,0,0,0] s)/\Sm n/\Sm (qi 4 s)/\Sm (Ji s n)/\Sm (KI s n)/\Sm (sg 0 [0,0,0,0,0,0,0,0,0,0,3,0,0,0,0,3,0,0,0] s)/\∃(y:Unit),D5 s n=0/\sga 0 [0,0,0,0,0,0,0,0,0,0,3,0,0,0,0,3,0] (He s n) [C.i (Aaj .i64 (iAdd (qi 17 (He s n)) n)),C.i (Aaj .i64 (iAdd (qi 18 (He s n)) (Ji s n)))]=sg 0 [0,0,0,0,0,0,0,0,0,0,3,0,0,0,0,3,0,0,0] (GG s n)/\Sm (G7 s n)/\Sm (FN s n)
def Aiq (s:List C) (n:Int):Prop:=Sm (sg 0 [0,0,0,0,0,0,0,0,0,0,3,0,0,0,0,3,0,0,0] s)/\Sm n/\Sm (qi 4 s)/\Sm (Ji s n)/\Sm (KI s n)/\Sm (sg 0 [0,0,0,0,0,0,0,0,0,0,3,0,0,0,0,3,0,0,0] s)/\∃(y:Unit),D5 s n=0/\sg 0 [0,0,0,0,0,0,0,0,0,0,3,0,0,0,0,3,0,0,0] (GG s n)=sg 0 [0,0,0,0,0,0,0,0,0,0,3,0,0,0,0,3,0,0,0] (LD s n)/\Sm (G7 s n)/\Sm (FN s n)
def Aci (s:List C):Int:=(GR (sg 5 [0,0,0,0,0] s) (EU s))
def Ads (s:List C) (n:Int):Int:=(AO (G7 s n) (FN s n))
theorem v114 (s:List C) (n:Int):WD hY s/\InR .i64 n->True->True/\Cn (BB s) (True/\Cn (bNot (bEq (qi 0 s) 1)) (0=qi 0 (EL s n)/\[]=ql 1 (EL s n)/\0=Ha s n/\DY (Jz s n)/\1=D5 s n) (Cn (bLt n 0) (0=qi 0 (EL s n)/\[]=ql 1 (EL s n)/\0=Ha s n/\DY (Jz s n)/\2=D5 s n) (Cn (bLt 65536 n) (0=qi 0 (EL s n)/\[]=ql 1 (EL s n)/\0=Ha s n/\DY (Jz s n)/\2=D5 s n) (Cn (bEq (qi 1 s) 3) (True/\(InR .i64 (EU s)->True/\(InR .i64 (Aci s)/\InR .i64 (H9 (sg 5 [0,0,0,0,0] s) (EU s))->True/\(InR .i64 (G5 (AC s) (iMin (Aci s) n))/\WL hW (F7 (AC s) (iMin (Aci s) n))/\WD hR (Jf (AC s) (iMin (Aci s) n))/\InR .i64 (EG (AC s) (iMin (Aci s) n))->Sm (sg 0 [0,0,0,0,0,0,0,0,0,0,3,0,0,0,0,3,0,0,0] s)/\Sm n/\Sm (qi 4 s)/\Sm (sg 0 [0,0,0,0,0,0,0,0,0,0,3,0,0,0,0,3,0,0,0] s)/\∃(y:Unit),True/\Aaj .i64 (iSub n (iMin (Aci s) n))=Ji s n/\EG (AC s) (iMin (Aci s) n)=KI s n/\sga 0 [0,0,0,0] s (sga 0 [0,0,0,0,0,0,3] (Jf (AC s) (iMin (Aci s) n)) (sg 11 [0,0,0,0,3,0,0,0] s))=sg 0 [0,0,0,0,0,0,0,0,0,0,3,0,0,0,0,3,0,0,0] (He s n)/\G5 (AC s) (iMin (Aci s) n)=G7 s n/\F7 (AC s) (iMin (Aci s) n)=FN s n)))) (Cn (bEq (qi 1 s) 5) (True/\(InR .i64 (qi 0 (ED (AC s) n))/\WL hW (ql 1 (ED (AC s) n))/\WD hR (Kz (AC s) n)/\InR .i64 (Hg (AC s) n)->Sm (sg 0 [0,0,0,0,0,0,0,0,0,0,3,0,0,0,0,3,0,0,0] s)/\Sm n/\Sm (qi 4 s)/\Sm (sg 0 [0,0,0,0,0,0,0,0,0,0,3,0,0,0,0,3,0,0,0] s)/\∃(y:Unit),True/\0=Ji s n/\Hg (AC s) n=KI s n/\sga 0 [0,0,0,0] s (sga 0 [0,0,0,0,0,0,3] (Kz (AC s) n) (sg 11 [0,0,0,0,3,0,0,0] s))=sg 0 [0,0,0,0,0,0,0,0,0,0,3,0,0,0,0,3,0,0,0] (He s n)/\qi 0 (ED (AC s) n)=G7 s n/\ql 1 (ED (AC s) n)=FN s n)) (Sm (sg 0 [0,0,0,0,0,0,0,0,0,0,3,0,0,0,0,3,0,0,0] s)/\Sm n/\Sm (qi 4 s)/\Sm (sg 0 [0,0,0,0,0,0,0,0,0,0,3,0,0,0,0,3,0,0,0] s)/\∃(y:Unit),True/\0=Ji s n/\0=KI s n/\sg 0 [0,0,0,0,0,0,0,0,0,0,3,0,0,0,0,3,0,0,0] s=sg 0 [0,0,0,0,0,0,0,0,0,0,3,0,0,0,0,3,0,0,0] (He s n)/\qi 4 s=G7 s n/\FN s n=[]))/\∀(x:Unit),True->InR .i64 (Ji s n)/\InR .i64 (KI s n)/\WD hY (He s n)/\InR .i64 (G7 s n)/\WL hW (FN s n)->Cn (bNe (KI s n) 0) (0=qi 0 (EL s n)/\[]=ql 1 (EL s n)/\0=Ha s n/\DY (Jz s n)/\KI s n=D5 s n) (Cn (bEq (qi 1 (He s n)) 3) ((Air s n)) (Cn (bEq (qi 1 (He s n)) 5) ((Air s n)) (Sm (sg 0 [0,0,0,0,0,0,0,0,0,0,3,0,0,0,0,3,0,0,0] s)/\Sm n/\Sm (qi 4 s)/\Sm (Ji s n)/\Sm (KI s n)/\Sm (sg 0 [0,0,0,0,0,0,0,0,0,0,3,0,0,0,0,3,0,0,0] s)/\∃(y:Unit),D5 s n=0/\sg 0 [0,0,0,0,0,0,0,0,0,0,3,0,0,0,0,3,0,0,0] (He s n)=sg 0 [0,0,0,0,0,0,0,0,0,0,3,0,0,0,0,3,0,0,0] (GG s n)/\Sm (G7 s n)/\Sm (FN s n)))/\∀(x:Unit),D5 s n=0->WD hY (GG s n)/\InR .i64 (G7 s n)/\WL hW (FN s n)->Cn (bEq (qi 1 (GG s n)) 5) (pLe (iLen (ql 10 (GG s n))) 9223372036854775807->Cn (bEq (iLen (ql 10 (GG s n))) 0) (Sm (sg 0 [0,0,0,0,0,0,0,0,0,0,3,0,0,0,0,3,0,0,0] s)/\Sm n/\Sm (qi 4 s)/\Sm (Ji s n)/\Sm (KI s n)/\Sm (sg 0 [0,0,0,0,0,0,0,0,0,0,3,0,0,0,0,3,0,0,0] s)/\∃(y:Unit),D5 s n=0/\C.i (qi 0 (GG s n))::C.i 6::sg 2 [0,0,0,0,0,0,0,0,3,0,0,0,0,3,0,0,0] (GG s n)=sg 0 [0,0,0,0,0,0,0,0,0,0,3,0,0,0,0,3,0,0,0] (LD s n)/\Sm (G7 s n)/\Sm (FN s n)) ((Aiq s n))) ((Aiq s n))/\∀(x:Unit),D5 s n=0->WD hY (LD s n)/\InR .i64 (G7 s n)/\WL hW (FN s n)->True/\(InR .i64 (Ads s n)->True/\(InR .i64 (JE (qi 4 s) (Aaj .i64 (iSub n (Ads s n))))/\WL hW (EI (qi 4 s) (Aaj .i64 (iSub n (Ads s n))))/\InR .i64 (I9 (qi 4 s) (Aaj .i64 (iSub n (Ads s n))))->(pLe (iLen (FN s n)) 1000000000/\pLe (iLen (EI (qi 4 s) (Aaj .i64 (iSub n (Ads s n))))) 1000000000)/\(InR .i64 (G7 s n)/\WL hW (FN s n++EI (qi 4 s) (Aaj .i64 (iSub n (Ads s n))))->G7 s n=qi 0 (EL s n)/\FN s n++EI (qi 4 s) (Aaj .i64 (iSub n (Ads s n)))=ql 1 (EL s n)/\Ji s n=Ha s n/\sg 0 [0,0,0,0,0,0,0,0,0,0,3,0,0,0,0,3,0,0,0] (LD s n)=sg 0 [0,0,0,0,0,0,0,0,0,0,3,0,0,0,0,3,0,0,0] (Jz s n)/\0=D5 s n)))))))) (True/\0=qi 0 (EL s n)/\[]=ql 1 (EL s n)/\0=Ha s n/\DY (Jz s n)/\1=D5 s n):=by
 intro hw hp;delta Air Aiq Aci Ads;have no:∀ {x:Int},x≠0->D5 s n=x->0=qi 0 (EL s n)/\[]=ql 1 (EL s n)/\0=Ha s n/\DY (Jz s n)/\x=D5 s n:=λh0 h1=>by
  unfold EL Ha Jz;rw[if_neg (by omega),if_neg (by omega),if_neg (by omega),h1]; exact⟨rfl,rfl,rfl,rfl,rfl⟩
 have n1:¬(BB s=true/\qi 0 s=1)->D5 s n=1:=λh=>if_neg h;have k5:sg 5 [0,0,0,0,0] s=Bd (AC s):=rfl;simp only[D,E,k5];refine⟨λh=>⟨λa=>no (by omega) (n1 λb=>by omega),λa=> ?_⟩,λh=>no (by omega) (n1 λb=>by rw[b.1]at h; cases h)⟩;have e:D5 s n=if n<0∨65536<n then 2 else KI s n:=if_pos ⟨h,a⟩;refine⟨λb=>no (by omega) (by rw[e,if_pos (.inl b)]),λb=>⟨λb1=>no (by omega) (by rw[e,if_pos (.inr b1)]),λb1=> ?_⟩⟩;rw[if_neg (by omega)]at e;have mk:=Rz (Bd (AC s)) (EU s);have mb:0<=GR (Bd (AC s)) (EU s):=by unfold GR; split<;>omega
 have rng:∀ {k:Int},-10000000000000000<=k->k<=10000000000000000->Aaj .i64 k=k:=λa b=>InR.wrap (by simp only[InR]; omega);have K:min (GR (Bd (AC s)) (EU s)) n=Oi s n:=rfl;have kb:0<=Oi s n/\Oi s n<=n:=by rw[←K]; omega
 have fb:=SH (G7 s n) (FN s n);have c1:qi 1 (He s n)=qi 1 s:=rfl;have c2:qi 1 (GG s n)=qi 1 s:=rfl;have c3:ql 10 (GG s n)=ql 6 (ML s n):=rfl;simp only[K,c1,c2,c3];refine⟨⟨λh3 _ _ _=>⟨(),?_,(if_pos h3).symm,?_,(if_pos h3).symm,(if_pos h3).symm⟩,λh3=>⟨λh5 _=>⟨(),(if_neg h3).symm,((if_neg h3).trans (if_pos h5)).symm,?_,((if_neg h3).trans (if_pos h5)).symm,((if_neg h3).trans (if_pos h5)).symm⟩,λh5=>⟨(),(if_neg h3).symm,((if_neg h3).trans (if_neg h5)).symm,?_,((if_neg h3).trans (if_neg h5)).symm,(if_neg h3).trans (if_neg h5)⟩⟩⟩,λ_ _=>⟨λc=>no c e,λc=>⟨⟨λh3=>⟨(),by omega,?_⟩,λh3=>⟨λh5=>⟨(),by omega,?_⟩,λh5=>⟨(),by omega,?_⟩⟩⟩,λ_ e0 _=>⟨⟨λh5 _=>⟨λhz=>⟨(),e0,?_⟩,λhz=>⟨(),e0,?_⟩⟩,λh5=>⟨(),e0,?_⟩⟩,λ_ _ _ _ _=>⟨⟨X7 h e0,XD _ _⟩,λ_=> ?_⟩⟩⟩⟩⟩
 · rw[rng (by omega) (by omega)]; exact(if_pos h3).symm
 · rw[show He s n=KC s (qi 1 s) (Jf (AC s) (Oi s n)) (DV s) (qi 16 s) (qi 17 s) (qi 18 s) by unfold He ML; rw[if_pos h3]]; rfl
 · rw[show He s n=KC s (qi 1 s) (Kz (AC s) n) (DV s) (qi 16 s) (qi 17 s) (qi 18 s) by unfold He ML; rw[if_neg h3,if_pos h5]]; rfl
 · rw[show He s n=KC s (qi 1 s) (AC s) (DV s) (qi 16 s) (qi 17 s) (qi 18 s) by unfold He ML; rw[if_neg h3,if_neg h5]]; rfl
 · rw[show GG s n=KC s (qi 1 s) (ML s n) (DV s) (qi 16 s) (Aaj .i64 (qi 17 s+n)) (Aaj .i64 (qi 18 s+Ji s n)) by unfold GG QI QH; rw[if_pos (.inl h3),if_pos (.inl h3)]]; rfl
 · rw[show GG s n=KC s (qi 1 s) (ML s n) (DV s) (qi 16 s) (Aaj .i64 (qi 17 s+n)) (Aaj .i64 (qi 18 s+Ji s n)) by unfold GG QI QH; rw[if_pos (.inr h5),if_pos (.inr h5)]]; rfl
 · rw[show GG s n=He s n by unfold GG QI QH; rw[if_neg (by omega),if_neg (by omega)]; rfl]
 · rw[show LD s n=KC s 6 (ML s n) (DV s) (qi 16 s) (QI s n) (QH s n) by unfold LD; rw[if_pos ⟨h5,List.length_eq_zero_iff.1 (by omega)⟩]]; rfl
 · rw[show LD s n=GG s n by unfold LD; rw[if_neg (λa=>hz (by rw[a.2]; rfl))]; rfl]
 · rw[show LD s n=GG s n by unfold LD; rw[if_neg (λa=>h5 a.1)]; rfl]
 · unfold EL Ha Jz;rw[if_pos e0,if_pos e0,if_pos e0,e0,rng (by omega) (by omega)]; exact⟨rfl,rfl,rfl,rfl,rfl⟩
def r114:Cr PR:=Kw (λ_=>true) [r104,r112,r169,r170,r171,r109,r172,r173] 114 6 {ps:=[(true,hY),(false,hI)],rs:=[(true,hK),(false,hI),(true,hY),(false,hI)],pre:=λ_=>True,out:=λa=>[rb [0,3] (EL (arg 0 a) (I a 1 0)),[.i (Ha (arg 0 a) (I a 1 0))],rb [0,0,0,0,0,0,0,0,0,0,3,0,0,0,0,3,0,0,0] (Jz (arg 0 a) (I a 1 0)),[.i (D5 (arg 0 a) (I a 1 0))]]} (λa=>A114 (arg 0 a) (I a 1 0)) λa=>Y (v114 (arg 0 a) (I a 1 0))
end Go.Sx

