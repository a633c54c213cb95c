import Derived.Test.YtejdbdegdanecaaGreatSxUse
import Derived.Test.YtejdbdegdanecaaGreatN08
import Derived.Test.YtejdbdegdanecaaGreatN17
set_option linter.unusedVariables false
set_option linter.unusedSimpArgs false
set_option maxRecDepth 100000
set_option maxHeartbeats 4000000
namespace Go
open Go.Sx
def Gz (x:List C) (ch n:Int):Int:=if AO (qi 0 x) (ql 1 x)=true/\He (qi 2 x) (qi 3 x) (ql 4 x)=true/\F6 (qi 5 x) (qi 6 x) (qi 7 x) (qi 8 x)=true then(if qi 2 x≠qi 0 x∨qi 3 x≠ch then 11 else if n<AQ (qi 0 x) (ql 1 x)then 2 else 0)else 1
def KP (x:List C):List C:=Ji (qi 2 x) (qi 3 x) (ql 4 x) (qi 0 x) (ql 1 x)
def OH (x:List C):List (List C):=ql 1 (JV (qi 5 x) (qi 6 x) (qi 7 x) (qi 8 x) (qi 0 (KP x)) (ql 1 (KP x)))
def IK:List (List C)->List (List C)->List (List C)
 |x::r,y::s=>[.i (qi 0 y+qi 0 x)]::IK r s
 |[],s=>s
 |_::_,[]=>[]
def GM (xs ys:List (List C)) (k:Int):List (List C):=(IK xs ys).take k.toNat++ys.drop k.toNat
def OQ (ch n:Int):List (List C)->List (List C)->List (List C)×Int
 |[],ys=>(ys,0)
 |x::r,ys=>if Gz x ch n≠0 then([],Gz x ch n)else OQ ch n r (IK (OH x) ys)
def Xr (b:Int) (ys:List (List C)):Prop:=∀x∈ys,-b<=qi 0 x/\qi 0 x<=b
def UQ (ch n:Int) (l:List (List C)) (z:Int) (ys:List (List C)):Prop:=0<=z/\z<=(l.length:Int)/\(ys.length:Int)=ch*n/\Xr (z*8388608) ys/\OQ ch n (l.drop z.toNat) ys=OQ ch n l (Jr (ch*n))
def FZ (ch n:Int) (l:List (List C)):Int:=if 1<=ch/\ch<=8/\0<=n/\n<=65536 then(if 32<l.length then 3 else(OQ ch n l (Jr (ch*n))).2)else 2
def EH (ch n:Int) (l:List (List C)):List (List C):=if FZ ch n l=0 then(OQ ch n l (Jr (ch*n))).1 else[]
def Q4 (ch n:Int) (l:List (List C)) (h e g:Int):Int:=if FZ ch n l≠0 then FZ ch n l else Jf h e g ch (EH ch n l)
def QJ (ch n:Int) (l:List (List C)) (h e g:Int):List C:=if FZ ch n l≠0 then[]else Jd h e g ch (EH ch n l)
def OX (ch n:Int) (l:List (List C)) (h e g:Int):List C:=if FZ ch n l≠0 then[]else FW h e g ch (EH ch n l)
def Jc (f t n a k:Int):Int:=if F6 f t n a=false then 1 else if k<0∨65536<k then 2 else 0
def EN (f t n a k:Int):List C:=if Jc f t n a k=0 then[.i f,.i t,.i n,.i (min n (a+k))]else[]
theorem Xq {x:List C} {ch n:Int} (h:Gz x ch n=0):AO (qi 0 x) (ql 1 x)=true/\He (qi 2 x) (qi 3 x) (ql 4 x)=true/\F6 (qi 5 x) (qi 6 x) (qi 7 x) (qi 8 x)=true/\qi 2 x=qi 0 x/\qi 3 x=ch/\AQ (qi 0 x) (ql 1 x)<=n:=by
 unfold Gz at h;split at h
 · rename_i c;split at h
   · omega
   split at h
   · omega
   · exact⟨c.1,c.2.1,c.2.2,by omega,by omega,by omega⟩
 · omega
theorem AaG {x:List C} {ch n:Int} (h:Gz x ch n=0):KP x=[.i ch,.l (FK (qi 0 x) ch (ql 4 x) (ql 1 x) (AQ (qi 0 x) (ql 1 x)))]:=by
 obtain⟨b,m,r,e1,e2,f⟩:=Xq h;have e0:Jq (qi 2 x) (qi 3 x) (ql 4 x) (qi 0 x) (ql 1 x)=0:=by unfold Jq; rw[if_neg (by simp[b,m]),if_neg (by omega)]
 unfold KP Ji;rw[if_pos e0,e1,e2];unfold AQ; rw[b]; rfl
theorem Yu {x:List C} {ch n:Int} (h:Gz x ch n=0):((OH x).length:Int)<=ch*n:=by
 obtain⟨b,m,r,e1,e2,f⟩:=Xq h;have a:=AaG h;have mv:=(Wq m).1;have fr:=Tt (qi 0 x) (ql 1 x);have l:=Vh (qi 0 x) ch (ql 4 x) (ql 1 x) (AQ (qi 0 x) (ql 1 x)) (by omega);have c:=AlS f (show 0<=ch by omega);rw[Amc fr.1]at l;rw[Amo n]at c;have d:=Al1 (show 0<=ch by omega) (show 0<=n by omega);unfold OH JV;rw[a];split
 · show((Jo _ _ _ _ _ (FK (qi 0 x) ch (ql 4 x) (ql 1 x) (AQ (qi 0 x) (ql 1 x))) (FK (qi 0 x) ch (ql 4 x) (ql 1 x) (AQ (qi 0 x) (ql 1 x))).length).length:Int)<=_;rw[V3]; omega
 · exact d
theorem Z9 (x:List C):(OH x).all Gp=true:=by
 unfold OH JV;split
 · exact Z8 ..
 · rfl
theorem OG:∀ {xs ys:List (List C)},xs.length<=ys.length->(IK xs ys).length=ys.length
 |[],_,_=>rfl
 |_::_,[],h=>by cases h
 |x::r,y::s,h=>by
  have:=OG (xs:=r) (ys:=s) (by simpa using h);simp only[IK,Al9,this]
theorem VZ:∀ {xs ys:List (List C)} {j:Nat},j<xs.length->j<ys.length->(IK xs ys).getD j []=[.i (qi 0 (ys.getD j [])+qi 0 (xs.getD j []))]
 |[],_,_,h,_=>by cases h
 |_::_,[],_,_,h=>by cases h
 |x::r,y::s,0,_,_=>rfl
 |x::r,y::s,j+1,h,g=>by
  simpa only[IK,AlU]using VZ (xs:=r) (ys:=s) (j:=j) (by simpa using h) (by simpa using g)
theorem VX:∀ {xs ys:List (List C)},xs.length<=ys.length->(IK xs ys).drop xs.length=ys.drop xs.length
 |[],_,_=>rfl
 |_::_,[],h=>by cases h
 |x::r,y::s,h=>by
  simpa only[IK,Al9,List.drop_succ_cons]using VX (xs:=r) (ys:=s) (by simpa using h)
theorem Xv {b:Int}:∀ {xs ys:List (List C)},Xr b ys->xs.all Gp=true->Xr (b+8388608) (IK xs ys)
 |[],_,h,_=>λz hz=>by have:=h z hz; omega
 |_::_,[],_,_=>λz hz=>by cases hz
 |x::r,y::s,h,g=>λz hz=>by
  simp only[Anb,AlG]at g;have gx: -8388608<=qi 0 x/\qi 0 x<=8388607:=Amb g.1;have hy:=h y (List.mem_cons_self ..);rcases Amd.1 hz with rfl|hz
  · show-(b+8388608)<=qi 0 y+qi 0 x/\qi 0 y+qi 0 x<=b+8388608;omega
  · exact Xv (λw hw=>h w (List.mem_cons_of_mem _ hw)) g.2 z hz
theorem Yf {xs ys:List (List C)} {k:Int} (h:xs.length<=ys.length):(GM xs ys k).length=ys.length:=by
 unfold GM; rw[AlF,AlN,Amk,OG h]; omega
theorem YH {xs ys:List (List C)} {k:Int} (h:xs.length<=ys.length) (h0:0<=k) (h1:k<(xs.length:Int)):rGet (GM xs ys k) k=rGet ys k:=by
 unfold GM rGet;rw[List.getD_eq_getElem?_getD,List.getElem?_append_right (by rw[AlN,OG h]; omega),AlN,OG h,show k.toNat-min k.toNat ys.length=0 by omega,List.getElem?_drop,List.getD_eq_getElem?_getD]; rfl
theorem ZJ {xs ys:List (List C)} {k:Int} (h:xs.length<=ys.length) (h0:0<=k) (h1:k<(xs.length:Int)):rSet (GM xs ys k) k [.i (qi 0 (rGet ys k)+qi 0 (rGet xs k))]=GM xs ys (k+1):=by
 have g:=VZ (xs:=xs) (ys:=ys) (j:=k.toNat) (by omega) (by omega);have ml:=OG h;unfold GM;rw[Ab7 h0 (show k<((IK xs ys).length:Int) by omega),Aba h0 (show k<(ys.length:Int) by omega)];unfold rSet;rw[Ano _ _ (by rw[AlN]; omega),AlN,show k.toNat-min k.toNat (IK xs ys).length=0 by omega,Ama,Amn];congr 1;show _=rGet (IK xs ys) k::_;rw[show rGet (IK xs ys) k=_ from g]; rfl
theorem ZZ {xs ys:List (List C)} {k:Int} (h:xs.length<=ys.length) (h1:k=(xs.length:Int)):GM xs ys k=IK xs ys:=by
 unfold GM;rw[h1,AmM,←VX h,List.take_append_drop]
end Go
namespace Go.Sx
theorem v218 (x:List C) (ch:Int) (n:Int):WD hIn x/\AnC ch/\AnC n->True/\True/\Cn (bNot (AO (qi 0 x) (ql 1 x))) (1=Gz x ch n) (True/\True/\Cn (bNot (He (qi 2 x) (qi 3 x) (ql 4 x))) (1=Gz x ch n) (True/\True/\Cn (bNot (F6 (qi 5 x) (qi 6 x) (qi 7 x) (qi 8 x))) (1=Gz x ch n) (Cn (bNe (qi 2 x) (qi 0 x)) (11=Gz x ch n) (Cn (bNe (qi 3 x) ch) (11=Gz x ch n) (True/\(AnC (AQ (qi 0 x) (ql 1 x))->Cn (bLt n (AQ (qi 0 x) (ql 1 x))) (2=Gz x ch n) (0=Gz x ch n))))))):=by
 intro hw;simp only[D,E];unfold Gz;refine⟨λh=>(if_neg (by simp[h])).symm,λh1=>⟨λh=>(if_neg (by simp[h])).symm,λh2=>⟨λh=>(if_neg (by simp[h])).symm,λh3=> ?_⟩⟩⟩;rw[if_pos ⟨h1,h2,h3⟩];exact⟨λa=>by rw[if_pos (.inl a)],λa=>⟨λb=>by rw[if_pos (.inr b)],λb _=>⟨λc=>by rw[if_neg (by omega),if_pos c],λc=>by rw[if_neg (by omega),if_neg c]⟩⟩⟩
def r218:Cr PR:=K0 [r108,r178,r123,r109] 218 6 {ps:=[(true,hIn),(false,hI),(false,hI)],rs:=[(false,hI)],out:=λa=>[[.i (Gz (AnQ a) (AnG a) (AnI a))]]} U λa=>Y (v218 (AnQ a) (AnG a) (AnI a))
def A174 (ch:Int) (n:Int) (l:List (List C)):FuncId->Nat->LoopAnn:=λ_ ii=>bif Nat.beq ii 7 then .on (λsv0=>match sv0.tmps.getD 8 .undef with| .own kk vv=> .inv (Int×List (List C)) (λz=>UQ ch n l z.1 z.2) (λz=>[(39,.int .i64 z.1)]) (λz=>[(kk,.row hI 2 vv z.2)]) [kk] ([0,1,2,6,7,8,10,11,12,14,15,29,32,37,38,39,40,48,67,68,69,70]++[1000000+kk]) (λz=>l.length-z.1.toNat)|_=> .unroll 0)else .on (λsv0=>match sv0.tmps.getD 8 .undef with| .own kk vv=>(match sv0.tmps.getD 67 .undef with| .sl _ ds=>(match(sv0.heap[kk]? :Option HB)with|some (.row _ _ _ ys)=> .inv Int (λz=>BA (ds.length:Int) z) (λz=>[(69,.int .i64 z)]) (λz=>[(kk,.row hI 2 vv (GM ds ys z))]) [kk] ([0,1,2,6,7,8,10,11,12,14,15,29,32,37,38,39,40,48,67,68,69,70]++[1000000+kk]) (λz=>ds.length-z.toNat)|_=> .unroll 0)|_=> .unroll 0)|_=> .unroll 0)
def AgF (l:List (List C)) (x:Int×List (List C)):List C:=(IL (qi 5 (rGet l x.1)) (qi 6 (rGet l x.1)) (qi 7 (rGet l x.1)) (qi 8 (rGet l x.1)) (qi 0 (KP (rGet l x.1))) (ql 1 (KP (rGet l x.1))))
def Abu (l:List (List C)) (x:Int×List (List C)):List (List C):=(OH (rGet l x.1))
theorem v174 (ch:Int) (n:Int) (l:List (List C)):AnC ch/\AnC n/\WL hIn l->Cn (bLt ch 1) ([]=EH ch n l/\2=FZ ch n l) (Cn (bLt 8 ch) ([]=EH ch n l/\2=FZ ch n l) (Cn (bLt n 0) ([]=EH ch n l/\2=FZ ch n l) (Cn (bLt 65536 n) ([]=EH ch n l/\2=FZ ch n l) (AnE l->Cn (bLt 32 (iLen l)) ([]=EH ch n l/\3=FZ ch n l) (AnC (iMul ch n)/\(pLe 0 (iMul ch n)/\pLe (iMul ch n) (iMul ch n)/\Abb 8 (iMul ch n))/\(AnE l->(∃(x:Int×List (List C)),UQ ch n l x.1 x.2/\0=x.1/\List.replicate (iMul ch n).toNat [C.i 0]=x.2)/\∀(x:Int×List (List C)),UQ ch n l x.1 x.2->AnC x.1/\WL hI x.2->Cn (bLt x.1 (iLen l)) (pIn 0 (iLen l) x.1/\(WD hIn (rGet l x.1)->True/\(AnC (Gz (rGet l x.1) ch n)->Cn (bNe (Gz (rGet l x.1) ch n) 0) ([]=EH ch n l/\Gz (rGet l x.1) ch n=FZ ch n l) (True/\(AnC (qi 0 (KP (rGet l x.1)))/\WL hW (ql 1 (KP (rGet l x.1)))/\AnC (Jq (qi 2 (rGet l x.1)) (qi 3 (rGet l x.1)) (ql 4 (rGet l x.1)) (qi 0 (rGet l x.1)) (ql 1 (rGet l x.1)))->True/\(AnC (qi 0 (JV (qi 5 (rGet l x.1)) (qi 6 (rGet l x.1)) (qi 7 (rGet l x.1)) (qi 8 (rGet l x.1)) (qi 0 (KP (rGet l x.1))) (ql 1 (KP (rGet l x.1)))))/\WL hW (Abu l x)/\AnC (qi 0 (AgF l x))/\AnC (qi 1 (AgF l x))/\AnC (qi 2 (AgF l x))/\AnC (qi 3 (AgF l x))/\AnC (Nh (qi 5 (rGet l x.1)) (qi 6 (rGet l x.1)) (qi 7 (rGet l x.1)) (qi 8 (rGet l x.1)) (qi 0 (KP (rGet l x.1))) (ql 1 (KP (rGet l x.1))))->AnE (Abu l x)->(∃(x_1:Int),BA (↑(Abu l x).length) x_1/\0=x_1/\x.2=GM (Abu l x) x.2 x_1)/\∀(x_1:Int),BA (↑(Abu l x).length) x_1->AnC x_1/\WL hI (GM (Abu l x) x.2 x_1)->Cn (bLt x_1 (iLen (Abu l x))) (pIn 0 (iLen (Abu l x)) x_1/\(InR .i32 (qi 0 (rGet (Abu l x) x_1))->pIn 0 (iLen (GM (Abu l x) x.2 x_1)) x_1/\(AnC (qi 0 (rGet (GM (Abu l x) x.2 x_1) x_1))->AnC (iAdd (qi 0 (rGet (GM (Abu l x) x.2 x_1) x_1)) (qi 0 (rGet (Abu l x) x_1)))/\pIn 0 (iLen (GM (Abu l x) x.2 x_1)) x_1/\AnC (iAdd x_1 1)/\Sm ch/\Sm n/\Sm l/\Sm (Gz (rGet l x.1) ch n)/\Sm l/\Sm (iLen l)/\Sm x.1/\Sm (Abu l x)/\Sm (iLen (Abu l x))/\Sm (sg 0 [0,3,0,0,3,0,0,0,0] (rGet l x.1))/\Sm (sg 0 [0,3] (JV (qi 5 (rGet l x.1)) (qi 6 (rGet l x.1)) (qi 7 (rGet l x.1)) (qi 8 (rGet l x.1)) (qi 0 (KP (rGet l x.1))) (ql 1 (KP (rGet l x.1)))))/\∃(y:Int),BA (↑(Abu l x).length) y/\iAdd x_1 1=y/\rSet (GM (Abu l x) x.2 x_1) x_1 [C.i (iAdd (qi 0 (rGet (GM (Abu l x) x.2 x_1) x_1)) (qi 0 (rGet (Abu l x) x_1)))]=GM (Abu l x) x.2 y/\nLt ((Abu l x).length-y.toNat) ((Abu l x).length-x_1.toNat)))) (AnC (iAdd x.1 1)/\Sm ch/\Sm n/\Sm l/\Sm l/\Sm (iLen l)/\∃(y:Int×List (List C)),UQ ch n l y.1 y.2/\iAdd x.1 1=y.1/\GM (Abu l x) x.2 x_1=y.2/\nLt (l.length-y.1.toNat) (l.length-x.1.toNat)))))))) (x.2=EH ch n l/\0=FZ ch n l))))))):=by
 intro hw;delta AgF Abu;have no:∀ {x:Int},x≠0->FZ ch n l=x->[]=EH ch n l/\x=FZ ch n l:=λh0 h1=>by
  unfold EH; rw[if_neg (by omega),h1]; exact⟨rfl,rfl⟩
 have n1:¬(1<=ch/\ch<=8/\0<=n/\n<=65536)->FZ ch n l=2:=λh=>if_neg h;simp only[D,E];refine⟨λa=>no (by omega) (n1 (by omega)),λa1=>⟨λa=>no (by omega) (n1 (by omega)),λa2=>⟨λa=>no (by omega) (n1 (by omega)),λa3=>⟨λa=>no (by omega) (n1 (by omega)),λa4 _=>⟨λa=>no (by omega) (by unfold FZ; rw[if_pos (by omega),if_pos (by omega)]),λa5=> ?_⟩⟩⟩⟩⟩;have e:FZ ch n l=(OQ ch n l (Jr (ch*n))).2:=by unfold FZ; rw[if_pos (by omega),if_neg (by omega)]
 have m:=Aa8 (x:=ch) (X:=8) (y:=n) (Y:=65536) (by omega) (by omega) (by omega) (by omega);have zl:=SH (ch*n);have rng:∀ {k:Int},-1000000000000000000<=k->k<=1000000000000000000->AnC k:=λa b=>by simp only[InR]; omega
 refine⟨rng (by omega) (by omega),⟨m.1,AlO _,by omega⟩,λ_=>⟨⟨(0,Jr (ch*n)),⟨AlO _,by simp only; omega,by rw[zl]; omega,λx hx=>by rw[List.eq_of_mem_replicate hx]; show(-(0*8388608):Int)<=0/\(0:Int)<=0*8388608; decide,rfl⟩,rfl,rfl⟩,?_⟩⟩;intro⟨z,ys⟩ ⟨z0,z1,yl,yb,yg⟩ _;simp only at*;refine⟨λhl=> ?_,λhl=> ?_⟩
 · have st:OQ ch n (l.drop z.toNat) ys=if Gz (rGet l z) ch n≠0 then([],Gz (rGet l z) ch n)else OQ ch n (l.drop (z+1).toNat) (IK (OH (rGet l z)) ys):=by rw[Aba z0 hl]; rfl
   generalize rGet l z=x at*;refine⟨⟨z0,hl⟩,λ_ _=>⟨λbad=>no bad (by rw[e,←yg,st,if_pos bad]),λok _ _ _=> ?_⟩⟩;have il:=Yu ok;have is:=Z9 x;have ll:(OH x).length<=ys.length:=by omega
   refine⟨⟨0,⟨AlO _,by omega⟩,rfl,rfl⟩,?_⟩;intro j ⟨j0,j1⟩ _;have kl:=Yf (k:=j) ll;refine⟨λhj=> ?_,λhj=> ?_⟩
   · have b1:=yb _ (LX (i:=j) j0 (by omega));have b2:=Un is j0 hj;rw[YH ll j0 hj,kl];exact⟨⟨j0,hj⟩,λ_=>⟨⟨j0,by omega⟩,λ_=>⟨rng (by omega) (by omega),⟨j0,by omega⟩,rng (by omega) (by omega),j+1,⟨by omega,by omega⟩,rfl,ZJ ll j0 hj,by omega⟩⟩⟩
   · rw[ZZ ll (show j=_ by omega)];exact⟨rng (by omega) (by omega),(z+1,IK (OH x) ys),⟨by simp only; omega,by simp only; omega,by simp only; rw[OG ll]; exact yl,by simp only; rw[Amt]; exact Xv yb is,by simp only; rw[←yg,st,if_neg (by omega)]⟩,rfl,rfl,by simp only; omega⟩
 · have ez:(OQ ch n l (Jr (ch*n)))=(ys,0):=by rw[←yg,AlP (by omega)]; rfl
   rw[ez]at e;unfold EH; rw[if_pos e,e,ez]; exact⟨rfl,rfl⟩
def r174:Cr PR:=K0 [r218,r120,r121] 174 8 {ps:=[(false,hI),(false,hI),(false,[.sl hIn])],rs:=[(false,hL),(false,hI)],out:=λa=>[[.l (EH (AnF a) (AnG a) (L a 2 0))],[.i (FZ (AnF a) (AnG a) (L a 2 0))]]} (λa=>A174 (AnF a) (AnG a) (L a 2 0)) λa=>Y (v174 (AnF a) (AnG a) (L a 2 0))
theorem v116 (ch:Int) (n:Int) (l:List (List C)) (h:Int) (e:Int) (g:Int):AnC ch/\AnC n/\WL hIn l/\AnC h/\AnC e/\AnC g->True/\(WL hI (EH ch n l)/\AnC (FZ ch n l)->Cn (bNe (FZ ch n l) 0) (0=qi 0 (QJ ch n l h e g)/\[]=ql 1 (QJ ch n l h e g)/\0=qi 0 (OX ch n l h e g)/\0=qi 1 (OX ch n l h e g)/\0=qi 2 (OX ch n l h e g)/\FZ ch n l=Q4 ch n l h e g) (True/\(AnC (qi 0 (Jd h e g ch (EH ch n l)))/\WL hW (ql 1 (Jd h e g ch (EH ch n l)))/\AnC (qi 0 (FW h e g ch (EH ch n l)))/\AnC (qi 1 (FW h e g ch (EH ch n l)))/\AnC (qi 2 (FW h e g ch (EH ch n l)))/\AnC (Jf h e g ch (EH ch n l))->qi 0 (Jd h e g ch (EH ch n l))=qi 0 (QJ ch n l h e g)/\ql 1 (Jd h e g ch (EH ch n l))=ql 1 (QJ ch n l h e g)/\qi 0 (FW h e g ch (EH ch n l))=qi 0 (OX ch n l h e g)/\qi 1 (FW h e g ch (EH ch n l))=qi 1 (OX ch n l h e g)/\qi 2 (FW h e g ch (EH ch n l))=qi 2 (OX ch n l h e g)/\Jf h e g ch (EH ch n l)=Q4 ch n l h e g))):=by
 intro hw;simp only[D,E];unfold QJ OX Q4;exact λ_=>⟨λh=>by rw[if_pos h,if_pos h,if_pos h]; exact⟨rfl,rfl,rfl,rfl,rfl,rfl⟩,λh _=>by rw[if_neg (by omega),if_neg (by omega),if_neg (by omega)]; exact⟨rfl,rfl,rfl,rfl,rfl,rfl⟩⟩
def r116:Cr PR:=K0 [r174,r175] 116 6 {ps:=[(false,hI),(false,hI),(false,[.sl hIn]),(true,hS)],rs:=[(true,hK),(true,hLm),(false,hI)],out:=λa=>[rb [0,3] (QJ (AnF a) (AnG a) (L a 2 0) (AnM a) (I a 3 1) (I a 3 2)),rb [0,0,0] (OX (AnF a) (AnG a) (L a 2 0) (AnM a) (I a 3 1) (I a 3 2)),[.i (Q4 (AnF a) (AnG a) (L a 2 0) (AnM a) (I a 3 1) (I a 3 2))]]} U λa=>Y (v116 (AnF a) (AnG a) (L a 2 0) (AnM a) (I a 3 1) (I a 3 2))
theorem v69 (bc:Int) (bd:List (List C)) (p:Int) (q:Int) (co:List (List C)) (f:Int) (t:Int) (n:Int) (a:Int) (k:Int):WD hIn [C.i bc,C.l bd,C.i p,C.i q,C.l co,C.i f,C.i t,C.i n,C.i a]/\AnC k->True/\True/\Cn (bNot (F6 f t n a)) (0=qi 0 (EN f t n a k)/\0=qi 1 (EN f t n a k)/\0=qi 2 (EN f t n a k)/\0=qi 3 (EN f t n a k)/\1=Jc f t n a k) (Cn (bLt k 0) (0=qi 0 (EN f t n a k)/\0=qi 1 (EN f t n a k)/\0=qi 2 (EN f t n a k)/\0=qi 3 (EN f t n a k)/\2=Jc f t n a k) (Cn (bLt 65536 k) (0=qi 0 (EN f t n a k)/\0=qi 1 (EN f t n a k)/\0=qi 2 (EN f t n a k)/\0=qi 3 (EN f t n a k)/\2=Jc f t n a k) (AnC (iAdd a k)/\f=qi 0 (EN f t n a k)/\t=qi 1 (EN f t n a k)/\n=qi 2 (EN f t n a k)/\iMin n (iAdd a k)=qi 3 (EN f t n a k)/\0=Jc f t n a k))):=by
 intro hw;have no:∀ {x:Int},x≠0->Jc f t n a k=x->0=qi 0 (EN f t n a k)/\0=qi 1 (EN f t n a k)/\0=qi 2 (EN f t n a k)/\0=qi 3 (EN f t n a k)/\x=Jc f t n a k:=λh0 h1=>by
  unfold EN; rw[if_neg (by omega),h1]; exact⟨rfl,rfl,rfl,rfl,rfl⟩
 simp only[D,E];refine⟨λh=>no (by omega) (if_pos h),λh=>⟨λc=>no (by omega) (by unfold Jc; rw[if_neg (by simp[h]),if_pos (.inl c)]),λc=>⟨λd=>no (by omega) (by unfold Jc; rw[if_neg (by simp[h]),if_pos (.inr d)]),λd=> ?_⟩⟩⟩;have v:=TT h;have e:Jc f t n a k=0:=by unfold Jc; rw[if_neg (by simp[h]),if_neg (by omega)]
 unfold EN; rw[if_pos e,e];exact⟨by simp only[InR]; omega,rfl,rfl,rfl,rfl,rfl⟩
def r69:Cr PR:=K0 [r123] 69 6 {ps:=[(true,hIn),(false,hI)],rs:=[(true,hA),(false,hI)],out:=λa=>[rb [0,0,0,0] (EN (I a 0 5) (I a 0 6) (I a 0 7) (I a 0 8) (AnG a)),[.i (Jc (I a 0 5) (I a 0 6) (I a 0 7) (I a 0 8) (AnG a))]]} U λa=>Y (v69 (AnF a) (L a 0 1) (AnK a) (AnL a) (L a 0 4) (I a 0 5) (I a 0 6) (I a 0 7) (I a 0 8) (AnG a))
end Go.Sx

namespace Go
open Go.Sx
def AL (s:List C):List C:=sg 4 [0,0,0,0,0,0,3] s
def Ea (s:List C):List C:=sg 11 [0,0,0,0,3] s
def AaY:List C:=[.i 0,.i 0,.i 0,.i 0,.l []]
def SS (s:List C):Bool:=if qi 0 s=1 then decide (Ak (AL s)<=qi 2 s)&&O3 (Ea s) AaY else if qi 0 s=2 then DU (Ea s)&&decide (qi 12 s=qi 2 s/\qi 11 s=qi 4 s)else false
def BK (s:List C):Bool:=decide (1<=qi 1 s/\qi 1 s<=7/\1<=qi 2 s/\qi 2 s<=65536/\0<=qi 3 s/\qi 3 s<=qi 2 s)&&(AX (AL s)&&(decide (qi 7 s=0/\0<=qi 16 s/\0<=qi 17 s/\0<=qi 18 s)&&SS s))
def Lp (s:List C) (st:Int) (r q:List C) (w p m:Int):List C:= .i (qi 0 s):: .i st:: .i (qi 2 s):: .i (qi 3 s)::sga 0 [0,0,0,0,0,0,3] r (sga 0 [0,0,0,0,3] q [.i w,.i p,.i m])
def NT (dir ch n d cap st:Int):List C:= .i dir:: .i 1:: .i cap:: .i st::sga 0 [0,0,0,0,0,0,3] (F8 ch n d) (sga 0 [0,0,0,0,3] (if dir=2 then Og ch cap else[]) [.i 0,.i 0,.i 0])
def NZ (dir ch n d cap st:Int):Int:=if BK (NT dir ch n d cap st)=true then 0 else 1
def Ee (x:List C):Prop:=[C.i 0,C.i 0,C.i 0,C.i 0,C.i 0,C.i 0,C.i 0,C.i 0,C.i 0,C.i 0,C.l [],C.i 0,C.i 0,C.i 0,C.i 0,C.l [],C.i 0,C.i 0,C.i 0]=sg 0 [0,0,0,0,0,0,0,0,0,0,3,0,0,0,0,3,0,0,0] x
def N9 (dir ch n d cap st:Int):List C:=if BK (NT dir ch n d cap st)=true then NT dir ch n d cap st else[]
def Fz (s:List C):Int:=if BK s=false then 0 else if qi 0 s=1 then Ak (AL s)else EM (Ea s)
def P6 (s:List C):Int:=if BK s=false then 0 else qi 2 s-Fz s
def G8 (s:List C) (ch:Int) (da:List (List C)):Int:=if(BK s=true/\qi 0 s=1)/\AO ch da=true then(if ch≠qi 4 s then 11 else if 5<=qi 1 s then 9 else if P6 s<AQ ch da then 10 else DZ (AL s) ch da)else 1
def IU (s:List C) (ch:Int) (da:List (List C)):List C:=if G8 s ch da=0 then Lp s (if qi 1 s=1/\0<AQ ch da then 2 else qi 1 s) (DW (AL s) ch da) (Ea s) (Aa3 .i64 (qi 16 s+AQ ch da)) (qi 17 s) (qi 18 s)else[]
def Qo (s:List C):List C:=Lp s (qi 1 s) (F8 (qi 4 s) (qi 5 s) (qi 6 s)) (if qi 0 s=2 then QH (Ea s)else Ea s) (qi 16 s) (qi 17 s) (qi 18 s)
def Gx (s:List C) (c:Int):Bool:=if c=1 then decide (qi 1 s=2∨(qi 1 s=1/\(qi 0 s=2∨qi 3 s=0)))else if c=2 then decide (qi 1 s=3)else if c=3 then decide (qi 1 s=4)else if c=4 then decide (qi 0 s=1/\2<=qi 1 s/\qi 1 s<=4)else if c=5 then decide (qi 1 s<=5)else if c=6 then decide (qi 1 s≠7)else decide (qi 1 s<=4)
def Rz (s:List C) (c:Int):Int:=if c=1 then 3 else if c=2 then 4 else if c=3 then 3 else if c=4 then 5 else if c=5 then 6 else if c=6 then 7 else if qi 1 s=2 then 1 else qi 1 s
def Vu (s:List C) (st:Int):List C:=Lp s st (AL s) (Ea s) (qi 16 s) (qi 17 s) (qi 18 s)
def FC (s:List C) (c:Int):List C:=Vu s (Rz s c)
def Gv (s:List C) (c:Int):Int:=if BK s=false∨c<1∨7<c then 1 else if Gx s c=false then 9 else if(c=1/\qi 1 s=2/\qi 0 s=1)/\Fz (Vu s 3)<qi 3 s then 4 else 0
def Ja (s:List C) (c:Int):List C:=if Gv s c=0 then(if 5<=c then Qo (FC s c)else FC s c)else[]
def Pj (s:List C) (n:Int):Int:=min (Gq (Bg (AL s)) (Fz s)) n
def JP (s:List C) (n:Int):Int:=if qi 1 s=3 then n-Pj s n else 0
def LC (s:List C) (n:Int):Int:=if qi 1 s=3 then ER (AL s) (Pj s n)else if qi 1 s=5 then Hu (AL s) n else 0
def Eg (s:List C) (n:Int):Int:=if BK s=true/\qi 0 s=1 then(if n<0∨65536<n then 2 else LC s n)else 1
def F9 (s:List C) (n:Int):List (List C):=if qi 1 s=3 then GK (AL s) (Pj s n)else if qi 1 s=5 then ql 1 (EO (AL s) n)else[]
def Hq (s:List C) (n:Int):Int:=if qi 1 s=3 then Hw (AL s) (Pj s n)else if qi 1 s=5 then qi 0 (EO (AL s) n)else qi 4 s
def Nr (s:List C) (n:Int):List C:=if qi 1 s=3 then Jz (AL s) (Pj s n)else if qi 1 s=5 then LU (AL s) n else AL s
def Ht (s:List C) (n:Int):List C:=Lp s (qi 1 s) (Nr s n) (Ea s) (qi 16 s) (qi 17 s) (qi 18 s)
def Rw (s:List C) (n:Int):Int:=if qi 1 s=3∨qi 1 s=5 then Aa3 .i64 (qi 17 s+n)else qi 17 s
def Q9 (s:List C) (n:Int):Int:=if qi 1 s=3∨qi 1 s=5 then Aa3 .i64 (qi 18 s+JP s n)else qi 18 s
def GX (s:List C) (n:Int):List C:=Lp s (qi 1 s) (Nr s n) (Ea s) (qi 16 s) (Rw s n) (Q9 s n)
def MO (s:List C) (n:Int):List C:=Lp s (if qi 1 s=5/\ql 6 (Nr s n)=[]then 6 else qi 1 s) (Nr s n) (Ea s) (qi 16 s) (Rw s n) (Q9 s n)
def Hz (s:List C) (n:Int):Int:=if Eg s n=0 then JP s n else 0
def JF (s:List C) (n:Int):List C:=if Eg s n=0 then MO s n else[]
def Fb (s:List C) (n:Int):List C:=if Eg s n=0 then[.i (Hq s n),.l (F9 s n++EX (qi 4 s) (n-AQ (Hq s n) (F9 s n)))]else[]
def IY (s:List C) (ch:Int) (da:List (List C)):Int:=if(BK s=true/\qi 0 s=2)/\AO ch da=true then(if ch≠qi 4 s then 11 else if qi 1 s≠3 then 0 else if ND (AL s) ch da≠0 then ND (AL s) ch da else Ii (Ea s) (qi 0 (DJ (AL s) ch da)) (ql 1 (DJ (AL s) ch da)))else 1
def JM (s:List C) (ch:Int) (da:List (List C)):Int:=if IY s ch da=0/\qi 1 s=3 then Kq (Ea s) (qi 0 (DJ (AL s) ch da)) (ql 1 (DJ (AL s) ch da))else 0
def KG (s:List C) (ch:Int) (da:List (List C)):List C:=if IY s ch da=0 then(if qi 1 s=3 then Lp s (qi 1 s) (Qr (AL s) ch da) (O7 (Ea s) (qi 0 (DJ (AL s) ch da)) (ql 1 (DJ (AL s) ch da))) (qi 16 s) (Aa3 .i64 (qi 17 s+AQ ch da)) (Aa3 .i64 (qi 18 s+JM s ch da))else s)else[]
theorem Yr (r:List C):0<=Ak r/\Ak r<=65536:=by
 unfold Ak
 cases h:AX r
 · exact⟨AlO _,by simp⟩
 · have c:=Df (Eb h).2;exact⟨Al8 (by omega) (by omega),c.2.2.2⟩
theorem YL (r:List C):0<=EM r/\EM r<=65536:=by
 cases h:DU r
 · unfold EM; rw[h]; simp
 · have v:=TG h;rw[TS h]; omega
theorem Yw (s:List C):0<=Fz s/\Fz s<=65536:=by
 have a:=Yr (AL s);have b:=YL (Ea s);unfold Fz;split
 · omega
 split<;>omega
theorem VU {s:List C} (h:BK s=true):(1<=qi 1 s/\qi 1 s<=7/\1<=qi 2 s/\qi 2 s<=65536/\0<=qi 3 s/\qi 3 s<=qi 2 s)/\AX (AL s)=true/\(qi 7 s=0/\0<=qi 16 s/\0<=qi 17 s/\0<=qi 18 s)/\SS s=true:=by
 simpa only[BK,AlG,AlE]using h
end Go
namespace Go.Sx
theorem v104 (s:List C):WD hY s->Cn (bLt (qi 1 s) 1) (false=BK s) (Cn (bLt 7 (qi 1 s)) (false=BK s) (Cn (bLt (qi 2 s) 1) (false=BK s) (Cn (bLt 65536 (qi 2 s)) (false=BK s) (Cn (bLt (qi 3 s) 0) (false=BK s) (Cn (bLt (qi 2 s) (qi 3 s)) (false=BK s) (True/\True/\Cn (bNot (AX (AL s))) (false=BK s) (Cn (bNe (qi 7 s) 0) (false=BK s) (Cn (bLt (qi 16 s) 0) (false=BK s) (Cn (bLt (qi 17 s) 0) (false=BK s) (Cn (bLt (qi 18 s) 0) (false=BK s) (Cn (bEq (qi 0 s) 1) (True/\(AnC (Ak (AL s))->Cn (bLe (Ak (AL s)) (qi 2 s)) (True/\O3 (Ea s) [C.i 0,C.i 0,C.i 0,C.i 0,C.l []]=BK s) (false=BK s))) (Cn (bEq (qi 0 s) 2) (True/\Cn (DU (Ea s)) (Cn (bEq (qi 12 s) (qi 2 s)) (bEq (qi 11 s) (qi 4 s)=BK s) (false=BK s)) (false=BK s)) (false=BK s))))))))))))):=by
 intro hw;have no:¬(1<=qi 1 s/\qi 1 s<=7/\1<=qi 2 s/\qi 2 s<=65536/\0<=qi 3 s/\qi 3 s<=qi 2 s)->false=BK s:=λh=>by unfold BK; rw[AlK h]; rfl
 simp only[D,E];refine⟨λa=>no (by omega),λa1=>⟨λa=>no (by omega),λa2=>⟨λa=>no (by omega),λa3=>⟨λa=>no (by omega),λa4=>⟨λa=>no (by omega),λa5=>⟨λa=>no (by omega),λa6=> ?_⟩⟩⟩⟩⟩⟩;have e:BK s=(AX (AL s)&&(decide (qi 7 s=0/\0<=qi 16 s/\0<=qi 17 s/\0<=qi 18 s)&&SS s)):=by unfold BK; rw[AlL (by omega),AlR]
 rw[e];refine⟨λh=>by rw[h]; rfl,λh=> ?_⟩;rw[h,AlR];have no2:¬(qi 7 s=0/\0<=qi 16 s/\0<=qi 17 s/\0<=qi 18 s)->false=(decide (qi 7 s=0/\0<=qi 16 s/\0<=qi 17 s/\0<=qi 18 s)&&SS s):=λh=>by rw[AlK h]; rfl
 refine⟨λa=>no2 (by omega),λb1=>⟨λa=>no2 (by omega),λb2=>⟨λa=>no2 (by omega),λb3=>⟨λa=>no2 (by omega),λb4=> ?_⟩⟩⟩⟩;rw[AlL (by omega),AlR];unfold SS;refine⟨λc _=> ?_,λc=>⟨λc2=>⟨λd=>⟨λf=> ?_,λf=> ?_⟩,λd=> ?_⟩,λc2=> ?_⟩⟩
 · rw[if_pos c]; exact⟨λd=>by rw[AlL d]; rfl,λd=>by rw[AlK (by omega)]; rfl⟩
 · rw[if_neg c,if_pos c2,d,AlR,decide_eq_decide]; omega
 · rw[if_neg c,if_pos c2,d,AlR]; exact(AlK (by omega)).symm
 · rw[if_neg c,if_pos c2,d]; rfl
 · rw[if_neg c,if_neg c2]
def r104:Cr PR:=K0 [r124,r125,r164,r163] 104 6 {ps:=[(true,hY)],rs:=[(false,[.bool])],out:=λa=>[[.b (BK (AnQ a))]]} U λa=>Y (v104 (AnQ a))
theorem v58 (dir:Int) (ch:Int) (n:Int) (d:Int) (cap:Int) (st:Int):AnC dir/\AnC ch/\AnC n/\AnC d/\AnC cap/\AnC st->True/\(WD hR (F8 ch n d)/\AnC (Lc ch n d)->Cn (bEq dir 2) (True/\(WD hQ (Og ch cap)/\AnC (Rk ch cap)->True/\True/\Cn (bNot (BK (C.i dir::C.i 1::C.i cap::C.i st::sga 0 [0,0,0,0,0,0,3] (F8 ch n d) (sga 0 [0,0,0,0,3] (Og ch cap) [C.i 0,C.i 0,C.i 0])))) (Ee (N9 dir ch n d cap st)/\1=NZ dir ch n d cap st) (C.i dir::C.i 1::C.i cap::C.i st::sga 0 [0,0,0,0,0,0,3] (F8 ch n d) (sga 0 [0,0,0,0,3] (Og ch cap) [C.i 0,C.i 0,C.i 0])=sg 0 [0,0,0,0,0,0,0,0,0,0,3,0,0,0,0,3,0,0,0] (N9 dir ch n d cap st)/\0=NZ dir ch n d cap st))) (True/\True/\Cn (bNot (BK (C.i dir::C.i 1::C.i cap::C.i st::sga 0 [0,0,0,0,0,0,3] (F8 ch n d) [C.i 0,C.i 0,C.i 0,C.i 0,C.l [],C.i 0,C.i 0,C.i 0]))) (Ee (N9 dir ch n d cap st)/\1=NZ dir ch n d cap st) (C.i dir::C.i 1::C.i cap::C.i st::sga 0 [0,0,0,0,0,0,3] (F8 ch n d) [C.i 0,C.i 0,C.i 0,C.i 0,C.l [],C.i 0,C.i 0,C.i 0]=sg 0 [0,0,0,0,0,0,0,0,0,0,3,0,0,0,0,3,0,0,0] (N9 dir ch n d cap st)/\0=NZ dir ch n d cap st))):=by
 intro hw;have z:BK (NT dir ch n d cap st)=false->Ee (N9 dir ch n d cap st)/\1=NZ dir ch n d cap st:=λh=>by
  unfold N9 NZ;rw[if_neg (by simp[h]),if_neg (by simp[h])]; exact⟨rfl,rfl⟩
 have y:BK (NT dir ch n d cap st)=true->NT dir ch n d cap st=sg 0 [0,0,0,0,0,0,0,0,0,0,3,0,0,0,0,3,0,0,0] (N9 dir ch n d cap st)/\0=NZ dir ch n d cap st:=λh=>by
  unfold N9 NZ;rw[if_pos h,if_pos h]; exact⟨rfl,rfl⟩
 simp only[D,E];refine λ_=>⟨λh _=> ?_,λh=> ?_⟩
 · have u:(C.i dir::C.i 1::C.i cap::C.i st::sga 0 [0,0,0,0,0,0,3] (F8 ch n d) (sga 0 [0,0,0,0,3] (Og ch cap) [C.i 0,C.i 0,C.i 0]))=NT dir ch n d cap st:=by unfold NT; rw[if_pos h]
   rw[u]; exact⟨z,y⟩
 · have u:(C.i dir::C.i 1::C.i cap::C.i st::sga 0 [0,0,0,0,0,0,3] (F8 ch n d) [C.i 0,C.i 0,C.i 0,C.i 0,C.l [],C.i 0,C.i 0,C.i 0])=NT dir ch n d cap st:=by unfold NT; rw[if_neg h]; rfl
   rw[u]; exact⟨z,y⟩
def r58:Cr PR:=K0 [r97,r103,r104] 58 6 {ps:=[(false,hI),(false,hI),(true,hII),(false,hI),(false,hI)],rs:=[(true,hY),(false,hI)],out:=λa=>[rb [0,0,0,0,0,0,0,0,0,0,3,0,0,0,0,3,0,0,0] (N9 (AnF a) (AnG a) (AnI a) (AnO a) (AnM a) (AnN a)),[.i (NZ (AnF a) (AnG a) (AnI a) (AnO a) (AnM a) (AnN a))]]} U λa=>Y (v58 (AnF a) (AnG a) (AnI a) (AnO a) (AnM a) (AnN a))
theorem v112 (s:List C):WD hY s->True/\True/\Cn (bNot (BK s)) (0=Fz s) (Cn (bEq (qi 0 s) 1) (True/\(AnC (Ak (AL s))->Ak (AL s)=Fz s)) (True/\(AnC (EM (Ea s))->EM (Ea s)=Fz s))):=by
 intro hw;simp only[D,E];unfold Fz;exact⟨λh=>by rw[if_pos h],λh=>⟨λc _=>by rw[if_neg (by simp[h]),if_pos c],λc _=>by rw[if_neg (by simp[h]),if_neg c]⟩⟩
def r112:Cr PR:=K0 [r104,r125,r167] 112 6 {ps:=[(true,hY)],rs:=[(false,hI)],out:=λa=>[[.i (Fz (AnQ a))]]} U λa=>Y (v112 (AnQ a))
theorem v110 (s:List C):WD hY s->True/\True/\Cn (bNot (BK s)) (0=P6 s) (True/\(AnC (Fz s)->AnC (iSub (qi 2 s) (Fz s))/\iSub (qi 2 s) (Fz s)=P6 s)):=by
 intro hw;simp only[D,E];have b:=Yw s;unfold P6;refine⟨λh=>by rw[if_pos h],λh _=> ?_⟩;have v:=(VU h).1;exact⟨by simp only[InR]; omega,by rw[if_neg (by simp[h])]⟩
def r110:Cr PR:=K0 [r104,r112] 110 6 {ps:=[(true,hY)],rs:=[(false,hI)],out:=λa=>[[.i (P6 (AnQ a))]]} U λa=>Y (v110 (AnQ a))
end Go.Sx

namespace Go.Sx
def AkM (s:List C) (ch:Int) (da:List (List C)):Prop:=True/\(AnC (AQ ch da)->sga 0 [0,0,0,0] s (sga 0 [0,0,0,0,0,0,3] (DW (AL s) ch da) (sga 11 [0,0,0,0,3] s (C.i (Aa3 .i64 (iAdd (qi 16 s) (AQ ch da)))::sg 17 [0,0] s)))=sg 0 [0,0,0,0,0,0,0,0,0,0,3,0,0,0,0,3,0,0,0] (IU s ch da)/\0=G8 s ch da)
theorem v62 (s:List C) (ch:Int) (da:List (List C)):WD hY s/\AnC ch/\WL hW da->True->True/\Cn (BK s) (True/\Cn (bNot (bEq (qi 0 s) 1)) (Ee (IU s ch da)/\1=G8 s ch da) (True/\True/\Cn (bNot (AO ch da)) (Ee (IU s ch da)/\1=G8 s ch da) (Cn (bNe ch (qi 4 s)) (Ee (IU s ch da)/\11=G8 s ch da) (Cn (bLe 5 (qi 1 s)) (Ee (IU s ch da)/\9=G8 s ch da) (True/\(AnC (AQ ch da)->True/\(AnC (P6 s)->Cn (bLt (P6 s) (AQ ch da)) (Ee (IU s ch da)/\10=G8 s ch da) (True/\(WD hR (DW (AL s) ch da)/\AnC (DZ (AL s) ch da)->Cn (bNe (DZ (AL s) ch da) 0) (Ee (IU s ch da)/\DZ (AL s) ch da=G8 s ch da) (Cn (bEq (qi 1 s) 1) (True/\(AnC (AQ ch da)->Cn (bLt 0 (AQ ch da)) (True/\(AnC (AQ ch da)->C.i (qi 0 s)::C.i 2::C.i (qi 2 s)::C.i (qi 3 s)::sga 0 [0,0,0,0,0,0,3] (DW (AL s) ch da) (sga 11 [0,0,0,0,3] s (C.i (Aa3 .i64 (iAdd (qi 16 s) (AQ ch da)))::sg 17 [0,0] s))=sg 0 [0,0,0,0,0,0,0,0,0,0,3,0,0,0,0,3,0,0,0] (IU s ch da)/\0=G8 s ch da)) ((AkM s ch da)))) ((AkM s ch da)))))))))))) (True/\Ee (IU s ch da)/\1=G8 s ch da):=by
 intro hw hp;delta AkM;have no:∀ {x:Int},x≠0->G8 s ch da=x->Ee (IU s ch da)/\x=G8 s ch da:=λh0 h1=>by
  unfold IU;rw[if_neg (by omega),h1]; exact⟨rfl,rfl⟩
 have n1:¬((BK s=true/\qi 0 s=1)/\AO ch da=true)->G8 s ch da=1:=λh=>if_neg h;simp only[D,E];refine⟨λh=>⟨λa=>no (by omega) (n1 λb=>by omega),λa=>⟨λb=>no (by omega) (n1 λc=>by rw[c.2]at b; cases b),λb=> ?_⟩⟩,λh=>no (by omega) (n1 λb=>by rw[b.1.1]at h; cases h)⟩;have e:G8 s ch da=if ch≠qi 4 s then 11 else if 5<=qi 1 s then 9 else if P6 s<AQ ch da then 10 else DZ (AL s) ch da:=if_pos ⟨⟨h,a⟩,b⟩;refine⟨λc=>no (by omega) (by rw[e,if_pos c]),λc=>⟨λc1=>no (by omega) (by rw[e,if_neg (by omega),if_pos c1]),λc1 _ _=>⟨λc2=>no (by omega) (by rw[e,if_neg (by omega),if_neg c1,if_pos c2]),λc2 _=> ?_⟩⟩⟩;rw[if_neg (by omega),if_neg c1,if_neg c2]at e;refine⟨λc3=>no c3 e,λc3=> ?_⟩;rw[c3]at e;unfold IU;rw[if_pos e,e];refine⟨λd _=>⟨λd1 _=>⟨by rw[if_pos ⟨d,d1⟩]; rfl,rfl⟩,λd1 _=>⟨by rw[if_neg (λx=>d1 x.2)]; rfl,rfl⟩⟩,λd _=>⟨by rw[if_neg (λx=>d x.1)]; rfl,rfl⟩⟩
def r62:Cr PR:=Kw (λ_=>true) [r104,r108,r109,r110,r111] 62 6 {ps:=[(true,hY),(true,hK)],rs:=[(true,hY),(false,hI)],out:=λa=>[rb [0,0,0,0,0,0,0,0,0,0,3,0,0,0,0,3,0,0,0] (IU (AnQ a) (AnG a) (L a 1 1)),[.i (G8 (AnQ a) (AnG a) (L a 1 1))]]} U λa=>Y (v62 (AnQ a) (AnG a) (L a 1 1))
theorem v122 (s:List C) (ch:Int) (da:List (List C)):WD hY s/\AnC ch/\WL hW da->True->True/\Cn (BK s) (True/\Cn (bNot (bEq (qi 0 s) 2)) (0=JM s ch da/\Ee (KG s ch da)/\1=IY s ch da) (True/\True/\Cn (bNot (AO ch da)) (0=JM s ch da/\Ee (KG s ch da)/\1=IY s ch da) (Cn (bNe ch (qi 4 s)) (0=JM s ch da/\Ee (KG s ch da)/\11=IY s ch da) (Cn (bNe (qi 1 s) 3) (0=JM s ch da/\sg 0 [0,0,0,0,0,0,0,0,0,0,3,0,0,0,0,3,0,0,0] s=sg 0 [0,0,0,0,0,0,0,0,0,0,3,0,0,0,0,3,0,0,0] (KG s ch da)/\0=IY s ch da) (True/\(AnC (qi 0 (DJ (AL s) ch da))/\WL hW (ql 1 (DJ (AL s) ch da))/\WD hR (Qr (AL s) ch da)/\AnC (ND (AL s) ch da)->Cn (bNe (ND (AL s) ch da) 0) (0=JM s ch da/\Ee (KG s ch da)/\ND (AL s) ch da=IY s ch da) (True/\(WD hQ (O7 (Ea s) (qi 0 (DJ (AL s) ch da)) (ql 1 (DJ (AL s) ch da)))/\AnC (Kq (Ea s) (qi 0 (DJ (AL s) ch da)) (ql 1 (DJ (AL s) ch da)))/\AnC (Ii (Ea s) (qi 0 (DJ (AL s) ch da)) (ql 1 (DJ (AL s) ch da)))->Cn (bNe (Ii (Ea s) (qi 0 (DJ (AL s) ch da)) (ql 1 (DJ (AL s) ch da))) 0) (0=JM s ch da/\Ee (KG s ch da)/\Ii (Ea s) (qi 0 (DJ (AL s) ch da)) (ql 1 (DJ (AL s) ch da))=IY s ch da) (True/\(AnC (AQ ch da)->Kq (Ea s) (qi 0 (DJ (AL s) ch da)) (ql 1 (DJ (AL s) ch da))=JM s ch da/\sga 0 [0,0,0,0] s (sga 0 [0,0,0,0,0,0,3] (Qr (AL s) ch da) (sga 0 [0,0,0,0,3] (O7 (Ea s) (qi 0 (DJ (AL s) ch da)) (ql 1 (DJ (AL s) ch da))) [C.i (qi 16 s),C.i (Aa3 .i64 (iAdd (qi 17 s) (AQ ch da))),C.i (Aa3 .i64 (iAdd (qi 18 s) (Kq (Ea s) (qi 0 (DJ (AL s) ch da)) (ql 1 (DJ (AL s) ch da)))))]))=sg 0 [0,0,0,0,0,0,0,0,0,0,3,0,0,0,0,3,0,0,0] (KG s ch da)/\0=IY s ch da)))))))))) (True/\0=JM s ch da/\Ee (KG s ch da)/\1=IY s ch da):=by
 intro hw hp;have no:∀ {x:Int},x≠0->IY s ch da=x->0=JM s ch da/\Ee (KG s ch da)/\x=IY s ch da:=λh0 h1=>by
  unfold KG JM;rw[if_neg (by omega),if_neg (by omega),h1]; exact⟨rfl,rfl,rfl⟩
 have n1:¬((BK s=true/\qi 0 s=2)/\AO ch da=true)->IY s ch da=1:=λh=>if_neg h;simp only[D,E];refine⟨λh=>⟨λa=>no (by omega) (n1 λb=>by omega),λa=>⟨λb=>no (by omega) (n1 λc=>by rw[c.2]at b; cases b),λb=> ?_⟩⟩,λh=>no (by omega) (n1 λb=>by rw[b.1.1]at h; cases h)⟩;have e:IY s ch da=if ch≠qi 4 s then 11 else if qi 1 s≠3 then 0 else if ND (AL s) ch da≠0 then ND (AL s) ch da else Ii (Ea s) (qi 0 (DJ (AL s) ch da)) (ql 1 (DJ (AL s) ch da)):=if_pos ⟨⟨h,a⟩,b⟩;refine⟨λc=>no (by omega) (by rw[e,if_pos c]),λc=>⟨λc1=> ?_,λc1 _=>⟨λc2=>no c2 (by rw[e,if_neg (by omega),if_neg (by omega),if_pos c2]),λc2 _=>⟨λc3=>no c3 (by rw[e,if_neg (by omega),if_neg (by omega),if_neg (by omega)]),λc3 _=> ?_⟩⟩⟩⟩
 · rw[if_neg (by omega),if_pos (by omega)]at e;unfold JM KG;rw[if_neg (by omega),if_pos e,if_neg (by omega),e]; exact⟨rfl,rfl,rfl⟩
 · rw[if_neg (by omega),if_neg (by omega),if_neg (by omega),c3]at e;have l:JM s ch da=Kq (Ea s) (qi 0 (DJ (AL s) ch da)) (ql 1 (DJ (AL s) ch da)):=if_pos ⟨e,by omega⟩;unfold KG;rw[if_pos e,if_pos (by omega),l,e]; exact⟨rfl,rfl,rfl⟩
def r122:Cr PR:=Kw (λ_=>true) [r104,r108,r183,r184,r109] 122 6 {ps:=[(true,hY),(true,hK)],rs:=[(false,hI),(true,hY),(false,hI)],out:=λa=>[[.i (JM (AnQ a) (AnG a) (L a 1 1))],rb [0,0,0,0,0,0,0,0,0,0,3,0,0,0,0,3,0,0,0] (KG (AnQ a) (AnG a) (L a 1 1)),[.i (IY (AnQ a) (AnG a) (L a 1 1))]]} U λa=>Y (v122 (AnQ a) (AnG a) (L a 1 1))
theorem v113 (s:List C):WD hY s->True/\(WD hR (F8 (qi 4 s) (qi 5 s) (qi 6 s))/\AnC (Lc (qi 4 s) (qi 5 s) (qi 6 s))->Cn (bEq (qi 0 s) 2) (True/\(WD hQ (QH (Ea s))/\AnC (TD (Ea s))->sga 0 [0,0,0,0] s (sga 0 [0,0,0,0,0,0,3] (F8 (qi 4 s) (qi 5 s) (qi 6 s)) (sga 0 [0,0,0,0,3] (QH (Ea s)) (sg 16 [0,0,0] s)))=sg 0 [0,0,0,0,0,0,0,0,0,0,3,0,0,0,0,3,0,0,0] (Qo s))) (sga 0 [0,0,0,0] s (sga 0 [0,0,0,0,0,0,3] (F8 (qi 4 s) (qi 5 s) (qi 6 s)) (sg 11 [0,0,0,0,3,0,0,0] s))=sg 0 [0,0,0,0,0,0,0,0,0,0,3,0,0,0,0,3,0,0,0] (Qo s))):=by
 intro hw;simp only[D,E];unfold Qo;exact λ_=>⟨λh _=>by rw[if_pos h]; rfl,λh=>by rw[if_neg h]; rfl⟩
def r113:Cr PR:=K0 [r97,r168] 113 6 {ps:=[(true,hY)],rs:=[(true,hY)],out:=λa=>[rb [0,0,0,0,0,0,0,0,0,0,3,0,0,0,0,3,0,0,0] (Qo (AnQ a))]} U λa=>Y (v113 (AnQ a))
def A64 (s:List C) (c:Int):FuncId->Nat->LoopAnn:=λ_ ii=>bif Nat.beq ii 1000028 then .cut Unit (λ_=>True) (λ_=>[(7,.bool (Gx s c))]) (λ_=>[(0,.box (ofCs hY (FC s c)) 152)]) [0] [0,1,2,4,5,6,7,18,22,23,42,47,52,66,71,76,81,84,103,106]else bif Nat.beq ii 1000032 then .cut Unit (λ_=>Gv s c=0) (λ_=>[]) (λ_=>[(0,.box (ofCs hY (FC s c)) 152)]) [0] [0,1,2,4,5,6,7,18,22,23,42,47,52,66,71,76,81,84,103,106]else .unroll 200
def AiL (s:List C) (c:Int):Prop:=Sm (sg 0 [0,0,0,0,0,0,0,0,0,0,3,0,0,0,0,3,0,0,0] s)/\Sm c/\Sm (qi 1 s)/\Sm (Gx s c)/\∃(y:Unit),Gv s c=0/\Sm (sg 0 [0,0,0,0,0,0,0,0,0,0,3,0,0,0,0,3,0,0,0] (FC s c))
def AiK (s:List C) (c:Int):Prop:=C.i (qi 0 s)::C.i 3::sg 2 [0,0,0,0,0,0,0,0,3,0,0,0,0,3,0,0,0] s=sg 0 [0,0,0,0,0,0,0,0,0,0,3,0,0,0,0,3,0,0,0] (FC s c)
def AkL (s:List C) (c:Int):Prop:=C.i (qi 0 s)::C.i 5::sg 2 [0,0,0,0,0,0,0,0,3,0,0,0,0,3,0,0,0] s=sg 0 [0,0,0,0,0,0,0,0,0,0,3,0,0,0,0,3,0,0,0] (FC s c)
def AkK (s:List C) (c:Int):Prop:=Sm (sg 0 [0,0,0,0,0,0,0,0,0,0,3,0,0,0,0,3,0,0,0] s)/\Sm c/\Sm (qi 1 s)/\∃(y:Unit),True/\false=Gx s c/\(AkL s c)
def AkJ (s:List C) (c:Int):Prop:=Sm (sg 0 [0,0,0,0,0,0,0,0,0,0,3,0,0,0,0,3,0,0,0] s)/\Sm c/\Sm (qi 1 s)/\∃(y:Unit),True/\true=Gx s c/\(AiK s c)
def AkI (s:List C) (c:Int):Prop:=sg 0 [0,0,0,0,0,0,0,0,0,0,3,0,0,0,0,3,0,0,0] s=sg 0 [0,0,0,0,0,0,0,0,0,0,3,0,0,0,0,3,0,0,0] (FC s c)
theorem v64 (s:List C) (c:Int):WD hY s/\AnC c->True/\True/\Cn (bNot (BK s)) (Ee (Ja s c)/\1=Gv s c) (Cn (bLt c 1) (Ee (Ja s c)/\1=Gv s c) (Cn (bLt 7 c) (Ee (Ja s c)/\1=Gv s c) (Cn (bEq c 1) (Cn (bEq (qi 1 s) 2) ((AkJ s c)) (Cn (bEq (qi 1 s) 1) (Cn (bEq (qi 0 s) 2) ((AkJ s c)) (Sm (sg 0 [0,0,0,0,0,0,0,0,0,0,3,0,0,0,0,3,0,0,0] s)/\Sm c/\Sm (qi 1 s)/\∃(y:Unit),True/\bEq (qi 3 s) 0=Gx s c/\(AiK s c))) (Sm (sg 0 [0,0,0,0,0,0,0,0,0,0,3,0,0,0,0,3,0,0,0] s)/\Sm c/\Sm (qi 1 s)/\∃(y:Unit),True/\false=Gx s c/\(AiK s c)))) (Cn (bEq c 2) (Sm (sg 0 [0,0,0,0,0,0,0,0,0,0,3,0,0,0,0,3,0,0,0] s)/\Sm c/\Sm (qi 1 s)/\∃(y:Unit),True/\bEq (qi 1 s) 3=Gx s c/\C.i (qi 0 s)::C.i 4::sg 2 [0,0,0,0,0,0,0,0,3,0,0,0,0,3,0,0,0] s=sg 0 [0,0,0,0,0,0,0,0,0,0,3,0,0,0,0,3,0,0,0] (FC s c)) (Cn (bEq c 3) (Sm (sg 0 [0,0,0,0,0,0,0,0,0,0,3,0,0,0,0,3,0,0,0] s)/\Sm c/\Sm (qi 1 s)/\∃(y:Unit),True/\bEq (qi 1 s) 4=Gx s c/\(AiK s c)) (Cn (bEq c 4) (Cn (bEq (qi 0 s) 1) (Cn (bLe 2 (qi 1 s)) (Sm (sg 0 [0,0,0,0,0,0,0,0,0,0,3,0,0,0,0,3,0,0,0] s)/\Sm c/\Sm (qi 1 s)/\∃(y:Unit),True/\bLe (qi 1 s) 4=Gx s c/\(AkL s c)) ((AkK s c))) ((AkK s c))) (Cn (bEq c 5) (Sm (sg 0 [0,0,0,0,0,0,0,0,0,0,3,0,0,0,0,3,0,0,0] s)/\Sm c/\Sm (qi 1 s)/\∃(y:Unit),True/\bLe (qi 1 s) 5=Gx s c/\C.i (qi 0 s)::C.i 6::sg 2 [0,0,0,0,0,0,0,0,3,0,0,0,0,3,0,0,0] s=sg 0 [0,0,0,0,0,0,0,0,0,0,3,0,0,0,0,3,0,0,0] (FC s c)) (Cn (bEq c 6) (Sm (sg 0 [0,0,0,0,0,0,0,0,0,0,3,0,0,0,0,3,0,0,0] s)/\Sm c/\Sm (qi 1 s)/\∃(y:Unit),True/\bNe (qi 1 s) 7=Gx s c/\C.i (qi 0 s)::C.i 7::sg 2 [0,0,0,0,0,0,0,0,3,0,0,0,0,3,0,0,0] s=sg 0 [0,0,0,0,0,0,0,0,0,0,3,0,0,0,0,3,0,0,0] (FC s c)) (Cn (bEq c 7) (Cn (bEq (qi 1 s) 2) (Sm (sg 0 [0,0,0,0,0,0,0,0,0,0,3,0,0,0,0,3,0,0,0] s)/\Sm c/\Sm (qi 1 s)/\∃(y:Unit),True/\bLe (qi 1 s) 4=Gx s c/\C.i (qi 0 s)::C.i 1::sg 2 [0,0,0,0,0,0,0,0,3,0,0,0,0,3,0,0,0] s=sg 0 [0,0,0,0,0,0,0,0,0,0,3,0,0,0,0,3,0,0,0] (FC s c)) (Sm (sg 0 [0,0,0,0,0,0,0,0,0,0,3,0,0,0,0,3,0,0,0] s)/\Sm c/\Sm (qi 1 s)/\∃(y:Unit),True/\bLe (qi 1 s) 4=Gx s c/\(AkI s c))) (Sm (sg 0 [0,0,0,0,0,0,0,0,0,0,3,0,0,0,0,3,0,0,0] s)/\Sm c/\Sm (qi 1 s)/\∃(y:Unit),True/\false=Gx s c/\(AkI s c))))))))/\∀(x:Unit),True->WD hY (FC s c)->True/\Cn (bNot (Gx s c)) (Ee (Ja s c)/\9=Gv s c) (Cn (bEq c 1) (Cn (bEq (qi 1 s) 2) (Cn (bEq (qi 0 (FC s c)) 1) (True/\(AnC (Fz (FC s c))->Cn (bLt (Fz (FC s c)) (qi 3 (FC s c))) (Ee (Ja s c)/\4=Gv s c) ((AiL s c)))) ((AiL s c))) ((AiL s c))) ((AiL s c))/\∀(x:Unit),Gv s c=0->WD hY (FC s c)->Cn (bLe 5 c) (True/\(WD hY (Qo (FC s c))->sg 0 [0,0,0,0,0,0,0,0,0,0,3,0,0,0,0,3,0,0,0] (Qo (FC s c))=sg 0 [0,0,0,0,0,0,0,0,0,0,3,0,0,0,0,3,0,0,0] (Ja s c)/\0=Gv s c)) (sg 0 [0,0,0,0,0,0,0,0,0,0,3,0,0,0,0,3,0,0,0] (FC s c)=sg 0 [0,0,0,0,0,0,0,0,0,0,3,0,0,0,0,3,0,0,0] (Ja s c)/\0=Gv s c))))):=by
 intro hw;delta AiL AiK AkL AkK AkJ AkI;have no:∀ {x:Int},x≠0->Gv s c=x->Ee (Ja s c)/\x=Gv s c:=λh0 h1=>by
  unfold Ja;rw[if_neg (by omega),h1]; exact⟨rfl,rfl⟩
 have st:∀ {x:Bool} {t:Int},Gx s c=x->Rz s c=t->∃_:Unit,x=Gx s c/\(C.i (qi 0 s)::C.i t::sg 2 [0,0,0,0,0,0,0,0,3,0,0,0,0,3,0,0,0] s)=sg 0 [0,0,0,0,0,0,0,0,0,0,3,0,0,0,0,3,0,0,0] (FC s c):=λh1 h2=>⟨(),h1.symm,by unfold FC; rw[h2]; rfl⟩
 simp only[D,E];refine⟨λh=>no (by omega) (if_pos (.inl h)),λh=>⟨λa=>no (by omega) (if_pos (.inr (.inl a))),λa=>⟨λb=>no (by omega) (if_pos (.inr (.inr b))),λb=>⟨⟨λh1=>⟨λd=>st ?_ ?_,λd=>⟨λd1=>⟨λd2=>st ?_ ?_,λd2=>st ?_ ?_⟩,λd1=>st ?_ ?_⟩⟩,λh1=>⟨λh2=>st ?_ ?_,λh2=>⟨λh3=>st ?_ ?_,λh3=>⟨λh4=>⟨λd=>⟨λd1=>st ?_ ?_,λd1=>st ?_ ?_⟩,λd=>st ?_ ?_⟩,λh4=>⟨λh5=>st ?_ ?_,λh5=>⟨λh6=>st ?_ ?_,λh6=>⟨λh7=>⟨λd=>st ?_ ?_,λd=>⟨(),?_,?_⟩⟩,λh7=>by omega⟩⟩⟩⟩⟩⟩⟩,?_⟩⟩⟩⟩
 all_goals (try subst c)
 all_goals (try (first|(simp[Rz]; done)|(simp[Rz, *]; done)|(simp[Gx]; done)|(simp[Gx, *]; done)))
 · have t:Rz s 7=qi 1 s:=by simp[Rz,d]
   unfold FC; rw[t]; rfl
 · intro _ _;have e:Gv s c=if Gx s c=false then 9 else if(c=1/\qi 1 s=2/\qi 0 s=1)/\Fz (Vu s 3)<qi 3 s then 4 else 0:=if_neg (by simp[h]; omega);refine⟨λd=>no (by omega) (by rw[e,if_pos d]),λd=> ?_⟩;rw[if_neg (by simp[d])]at e;have z:¬((c=1/\qi 1 s=2/\qi 0 s=1)/\Fz (Vu s 3)<qi 3 s)->∃_:Unit,Gv s c=0:=λx=>⟨(),by rw[e,if_neg x]⟩
   refine⟨⟨λc1=>⟨λd1=>⟨λd2 _=> ?_,λd2=>z λx=>d2 x.1.2.2⟩,λd1=>z λx=>d1 x.1.2.1⟩,λc1=>z λx=>c1 x.1.1⟩,λ_ k _=>⟨λf _=> ?_,λf=> ?_⟩⟩
   · subst c1;exact⟨λl=>no (by omega) (by rw[e,if_pos ⟨⟨rfl,d1,d2⟩,l⟩]),λl=>z λx=>l x.2⟩
   · unfold Ja; rw[if_pos k,if_pos f,k]; exact⟨rfl,rfl⟩
   · unfold Ja; rw[if_pos k,if_neg f,k]; exact⟨rfl,rfl⟩
def r64:Cr PR:=K0 [r104,r112,r113] 64 6 {ps:=[(true,hY),(false,hI)],rs:=[(true,hY),(false,hI)],out:=λa=>[rb [0,0,0,0,0,0,0,0,0,0,3,0,0,0,0,3,0,0,0] (Ja (AnQ a) (AnG a)),[.i (Gv (AnQ a) (AnG a))]]} (λa=>A64 (AnQ a) (AnG a)) λa=>Y (v64 (AnQ a) (AnG a))
end Go.Sx
namespace Go
open Go.Sx
theorem Ye (ch n:Int):((EX ch n).length:Int)<=1000000000:=by
 unfold EX Jv;split
 · rename_i c;have m:=Aa8 (x:=ch) (X:=8) (y:=n) (Y:=65536) (by omega) (by omega) (by omega) (by omega);have z:(Jr (ch*n)).length=(ch*n).toNat:=Amx;rw[if_pos rfl,z]; omega
 · rw[if_neg (by omega)]; decide
theorem V5 {r:List C} {n:Int} (h:AX r=true) (h1:n<=65536):((FQ r n).length:Int)<=1000000000:=by
 have c:=Df (Eb h).2;have l:=P9 r n (by omega);have m:=Aa8 (x:=(n.toNat:Int)) (X:=65536) (y:=qi 0 r) (Y:=8) (by omega) (by omega) (by omega) (by omega);omega
theorem Wn (r:List C):∀(m:Nat) (k:Int),Pi r m k<=k+m
 |0,k=>by simp[Pi]
 |m+1,k=>by
  have:=Wn r m (k+1);unfold Pi;split<;>omega
theorem Y3 {s:List C} {n:Int} (h:BK s=true) (e0:Eg s n=0):((F9 s n).length:Int)<=1000000000:=by
 have v:=(VU h).2.1;unfold Eg at e0;split at e0
 · split at e0
   · omega
   · unfold F9;split
     · unfold GK;split
       · rename_i k;unfold ER at k;rw[if_neg (by simp[v])]at k;exact V5 v (by split at k<;>omega)
       · decide
     split
     · have f:=Wn (AL s) n.toNat 0;unfold EO;split
       · show((FQ (AL s) (PM (AL s) n)).length:Int)<=_;exact V5 v (by unfold PM; omega)
       · decide
     · decide
 · omega
end Go
namespace Go.Sx
def A114 (s:List C) (n:Int):FuncId->Nat->LoopAnn:=λ_ ii=>bif Nat.beq ii 1000016 then .on (λsv0=>match sv0.tmps.getD 10 .undef with| .ref kk _=> .cut Unit (λ_=>True) (λ_=>[(9,.int .i64 (JP s n)),(11,.int .i64 (LC s n))]) (λ_=>[(0,.box (ofCs hY (Ht s n)) 152),(kk,.box [.int .i64 (Hq s n),.sl hW (F9 s n)] 95)]) [0,kk] [0,1,2,4,5,6,7,8,9,10,11,14,18,26,35,36,62,74,85,105]|_=> .unroll 200)else bif Nat.beq ii 1000021 then .on (λsv0=>match sv0.tmps.getD 10 .undef with| .ref kk _=> .cut Unit (λ_=>Eg s n=0) (λ_=>[]) (λ_=>[(0,.box (ofCs hY (GX s n)) 152),(kk,.box [.int .i64 (Hq s n),.sl hW (F9 s n)] 95)]) [0,kk] [0,1,2,4,5,6,7,8,9,10,11,14,18,26,35,36,62,74,85,105]|_=> .unroll 200)else bif Nat.beq ii 1000023 then .on (λsv0=>match sv0.tmps.getD 10 .undef with| .ref kk _=> .cut Unit (λ_=>Eg s n=0) (λ_=>[]) (λ_=>[(0,.box (ofCs hY (MO s n)) 152),(kk,.box [.int .i64 (Hq s n),.sl hW (F9 s n)] 95)]) [0,kk] [0,1,2,4,5,6,7,8,9,10,11,14,18,26,35,36,62,74,85,105]|_=> .unroll 200)else .unroll 200
def Ajc (s:List C) (n:Int):Prop:=Sm (sg 0 [0,0,0,0,0,0,0,0,0,0,3,0,0,0,0,3,0,0,0] s)/\Sm n/\Sm (qi 4 s)/\Sm (JP s n)/\Sm (LC s n)/\Sm (sg 0 [0,0,0,0,0,0,0,0,0,0,3,0,0,0,0,3,0,0,0] s)/\∃(y:Unit),Eg s n=0/\sga 0 [0,0,0,0,0,0,0,0,0,0,3,0,0,0,0,3,0] (Ht s n) [C.i (Aa3 .i64 (iAdd (qi 17 (Ht s n)) n)),C.i (Aa3 .i64 (iAdd (qi 18 (Ht s n)) (JP s n)))]=sg 0 [0,0,0,0,0,0,0,0,0,0,3,0,0,0,0,3,0,0,0] (GX s n)/\Sm (Hq s n)/\Sm (F9 s n)
def Ajb (s:List C) (n:Int):Prop:=Sm (sg 0 [0,0,0,0,0,0,0,0,0,0,3,0,0,0,0,3,0,0,0] s)/\Sm n/\Sm (qi 4 s)/\Sm (JP s n)/\Sm (LC s n)/\Sm (sg 0 [0,0,0,0,0,0,0,0,0,0,3,0,0,0,0,3,0,0,0] s)/\∃(y:Unit),Eg s n=0/\sg 0 [0,0,0,0,0,0,0,0,0,0,3,0,0,0,0,3,0,0,0] (GX s n)=sg 0 [0,0,0,0,0,0,0,0,0,0,3,0,0,0,0,3,0,0,0] (MO s n)/\Sm (Hq s n)/\Sm (F9 s n)
def Ac4 (s:List C):Int:=(Gq (sg 5 [0,0,0,0,0] s) (Fz s))
def Aed (s:List C) (n:Int):Int:=(AQ (Hq s n) (F9 s n))
theorem v114 (s:List C) (n:Int):WD hY s/\AnC n->True->True/\Cn (BK s) (True/\Cn (bNot (bEq (qi 0 s) 1)) (0=qi 0 (Fb s n)/\[]=ql 1 (Fb s n)/\0=Hz s n/\Ee (JF s n)/\1=Eg s n) (Cn (bLt n 0) (0=qi 0 (Fb s n)/\[]=ql 1 (Fb s n)/\0=Hz s n/\Ee (JF s n)/\2=Eg s n) (Cn (bLt 65536 n) (0=qi 0 (Fb s n)/\[]=ql 1 (Fb s n)/\0=Hz s n/\Ee (JF s n)/\2=Eg s n) (Cn (bEq (qi 1 s) 3) (True/\(AnC (Fz s)->True/\(AnC (Ac4 s)/\AnC (Iw (sg 5 [0,0,0,0,0] s) (Fz s))->True/\(AnC (Hw (AL s) (iMin (Ac4 s) n))/\WL hW (GK (AL s) (iMin (Ac4 s) n))/\WD hR (Jz (AL s) (iMin (Ac4 s) n))/\AnC (ER (AL s) (iMin (Ac4 s) n))->Sm (sg 0 [0,0,0,0,0,0,0,0,0,0,3,0,0,0,0,3,0,0,0] s)/\Sm n/\Sm (qi 4 s)/\Sm (sg 0 [0,0,0,0,0,0,0,0,0,0,3,0,0,0,0,3,0,0,0] s)/\∃(y:Unit),True/\Aa3 .i64 (iSub n (iMin (Ac4 s) n))=JP s n/\ER (AL s) (iMin (Ac4 s) n)=LC s n/\sga 0 [0,0,0,0] s (sga 0 [0,0,0,0,0,0,3] (Jz (AL s) (iMin (Ac4 s) n)) (sg 11 [0,0,0,0,3,0,0,0] s))=sg 0 [0,0,0,0,0,0,0,0,0,0,3,0,0,0,0,3,0,0,0] (Ht s n)/\Hw (AL s) (iMin (Ac4 s) n)=Hq s n/\GK (AL s) (iMin (Ac4 s) n)=F9 s n)))) (Cn (bEq (qi 1 s) 5) (True/\(AnC (qi 0 (EO (AL s) n))/\WL hW (ql 1 (EO (AL s) n))/\WD hR (LU (AL s) n)/\AnC (Hu (AL s) n)->Sm (sg 0 [0,0,0,0,0,0,0,0,0,0,3,0,0,0,0,3,0,0,0] s)/\Sm n/\Sm (qi 4 s)/\Sm (sg 0 [0,0,0,0,0,0,0,0,0,0,3,0,0,0,0,3,0,0,0] s)/\∃(y:Unit),True/\0=JP s n/\Hu (AL s) n=LC s n/\sga 0 [0,0,0,0] s (sga 0 [0,0,0,0,0,0,3] (LU (AL s) n) (sg 11 [0,0,0,0,3,0,0,0] s))=sg 0 [0,0,0,0,0,0,0,0,0,0,3,0,0,0,0,3,0,0,0] (Ht s n)/\qi 0 (EO (AL s) n)=Hq s n/\ql 1 (EO (AL s) n)=F9 s n)) (Sm (sg 0 [0,0,0,0,0,0,0,0,0,0,3,0,0,0,0,3,0,0,0] s)/\Sm n/\Sm (qi 4 s)/\Sm (sg 0 [0,0,0,0,0,0,0,0,0,0,3,0,0,0,0,3,0,0,0] s)/\∃(y:Unit),True/\0=JP s n/\0=LC s n/\sg 0 [0,0,0,0,0,0,0,0,0,0,3,0,0,0,0,3,0,0,0] s=sg 0 [0,0,0,0,0,0,0,0,0,0,3,0,0,0,0,3,0,0,0] (Ht s n)/\qi 4 s=Hq s n/\F9 s n=[]))/\∀(x:Unit),True->AnC (JP s n)/\AnC (LC s n)/\WD hY (Ht s n)/\AnC (Hq s n)/\WL hW (F9 s n)->Cn (bNe (LC s n) 0) (0=qi 0 (Fb s n)/\[]=ql 1 (Fb s n)/\0=Hz s n/\Ee (JF s n)/\LC s n=Eg s n) (Cn (bEq (qi 1 (Ht s n)) 3) ((Ajc s n)) (Cn (bEq (qi 1 (Ht s n)) 5) ((Ajc s n)) (Sm (sg 0 [0,0,0,0,0,0,0,0,0,0,3,0,0,0,0,3,0,0,0] s)/\Sm n/\Sm (qi 4 s)/\Sm (JP s n)/\Sm (LC s n)/\Sm (sg 0 [0,0,0,0,0,0,0,0,0,0,3,0,0,0,0,3,0,0,0] s)/\∃(y:Unit),Eg s n=0/\sg 0 [0,0,0,0,0,0,0,0,0,0,3,0,0,0,0,3,0,0,0] (Ht s n)=sg 0 [0,0,0,0,0,0,0,0,0,0,3,0,0,0,0,3,0,0,0] (GX s n)/\Sm (Hq s n)/\Sm (F9 s n)))/\∀(x:Unit),Eg s n=0->WD hY (GX s n)/\AnC (Hq s n)/\WL hW (F9 s n)->Cn (bEq (qi 1 (GX s n)) 5) (AnE (ql 10 (GX s n))->Cn (bEq (iLen (ql 10 (GX s n))) 0) (Sm (sg 0 [0,0,0,0,0,0,0,0,0,0,3,0,0,0,0,3,0,0,0] s)/\Sm n/\Sm (qi 4 s)/\Sm (JP s n)/\Sm (LC s n)/\Sm (sg 0 [0,0,0,0,0,0,0,0,0,0,3,0,0,0,0,3,0,0,0] s)/\∃(y:Unit),Eg s n=0/\C.i (qi 0 (GX s n))::C.i 6::sg 2 [0,0,0,0,0,0,0,0,3,0,0,0,0,3,0,0,0] (GX s n)=sg 0 [0,0,0,0,0,0,0,0,0,0,3,0,0,0,0,3,0,0,0] (MO s n)/\Sm (Hq s n)/\Sm (F9 s n)) ((Ajb s n))) ((Ajb s n))/\∀(x:Unit),Eg s n=0->WD hY (MO s n)/\AnC (Hq s n)/\WL hW (F9 s n)->True/\(AnC (Aed s n)->True/\(AnC (JZ (qi 4 s) (Aa3 .i64 (iSub n (Aed s n))))/\WL hW (EX (qi 4 s) (Aa3 .i64 (iSub n (Aed s n))))/\AnC (Jv (qi 4 s) (Aa3 .i64 (iSub n (Aed s n))))->(pLe (iLen (F9 s n)) 1000000000/\pLe (iLen (EX (qi 4 s) (Aa3 .i64 (iSub n (Aed s n))))) 1000000000)/\(AnC (Hq s n)/\WL hW (F9 s n++EX (qi 4 s) (Aa3 .i64 (iSub n (Aed s n))))->Hq s n=qi 0 (Fb s n)/\F9 s n++EX (qi 4 s) (Aa3 .i64 (iSub n (Aed s n)))=ql 1 (Fb s n)/\JP s n=Hz s n/\sg 0 [0,0,0,0,0,0,0,0,0,0,3,0,0,0,0,3,0,0,0] (MO s n)=sg 0 [0,0,0,0,0,0,0,0,0,0,3,0,0,0,0,3,0,0,0] (JF s n)/\0=Eg s n)))))))) (True/\0=qi 0 (Fb s n)/\[]=ql 1 (Fb s n)/\0=Hz s n/\Ee (JF s n)/\1=Eg s n):=by
 intro hw hp;delta Ajc Ajb Ac4 Aed;have no:∀ {x:Int},x≠0->Eg s n=x->0=qi 0 (Fb s n)/\[]=ql 1 (Fb s n)/\0=Hz s n/\Ee (JF s n)/\x=Eg s n:=λh0 h1=>by
  unfold Fb Hz JF;rw[if_neg (by omega),if_neg (by omega),if_neg (by omega),h1]; exact⟨rfl,rfl,rfl,rfl,rfl⟩
 have n1:¬(BK s=true/\qi 0 s=1)->Eg s n=1:=λh=>if_neg h;have k5:sg 5 [0,0,0,0,0] s=Bg (AL s):=rfl;simp only[D,E,k5];refine⟨λh=>⟨λa=>no (by omega) (n1 λb=>by omega),λa=> ?_⟩,λh=>no (by omega) (n1 λb=>by rw[b.1]at h; cases h)⟩;have e:Eg s n=if n<0∨65536<n then 2 else LC s n:=if_pos ⟨h,a⟩;refine⟨λb=>no (by omega) (by rw[e,if_pos (.inl b)]),λb=>⟨λb1=>no (by omega) (by rw[e,if_pos (.inr b1)]),λb1=> ?_⟩⟩;rw[if_neg (by omega)]at e;have mk:=SX (Bg (AL s)) (Fz s);have mb:0<=Gq (Bg (AL s)) (Fz s):=by unfold Gq; split<;>omega
 have rng:∀ {k:Int},-10000000000000000<=k->k<=10000000000000000->Aa3 .i64 k=k:=λa b=>InR.wrap (by simp only[InR]; omega);have K:min (Gq (Bg (AL s)) (Fz s)) n=Pj s n:=rfl;have kb:0<=Pj s n/\Pj s n<=n:=by rw[←K]; omega
 have fb:=Tt (Hq s n) (F9 s n);have c1:qi 1 (Ht s n)=qi 1 s:=rfl;have c2:qi 1 (GX s n)=qi 1 s:=rfl;have c3:ql 10 (GX s n)=ql 6 (Nr s n):=rfl;simp only[K,c1,c2,c3];refine⟨⟨λh3 _ _ _=>⟨(),?_,(if_pos h3).symm,?_,(if_pos h3).symm,(if_pos h3).symm⟩,λh3=>⟨λh5 _=>⟨(),(if_neg h3).symm,((if_neg h3).trans (if_pos h5)).symm,?_,((if_neg h3).trans (if_pos h5)).symm,((if_neg h3).trans (if_pos h5)).symm⟩,λh5=>⟨(),(if_neg h3).symm,((if_neg h3).trans (if_neg h5)).symm,?_,((if_neg h3).trans (if_neg h5)).symm,(if_neg h3).trans (if_neg h5)⟩⟩⟩,λ_ _=>⟨λc=>no c e,λc=>⟨⟨λh3=>⟨(),by omega,?_⟩,λh3=>⟨λh5=>⟨(),by omega,?_⟩,λh5=>⟨(),by omega,?_⟩⟩⟩,λ_ e0 _=>⟨⟨λh5 _=>⟨λhz=>⟨(),e0,?_⟩,λhz=>⟨(),e0,?_⟩⟩,λh5=>⟨(),e0,?_⟩⟩,λ_ _ _ _ _=>⟨⟨Y3 h e0,Ye _ _⟩,λ_=> ?_⟩⟩⟩⟩⟩
 · rw[rng (by omega) (by omega)]; exact(if_pos h3).symm
 · rw[show Ht s n=Lp s (qi 1 s) (Jz (AL s) (Pj s n)) (Ea s) (qi 16 s) (qi 17 s) (qi 18 s) by unfold Ht Nr; rw[if_pos h3]]; rfl
 · rw[show Ht s n=Lp s (qi 1 s) (LU (AL s) n) (Ea s) (qi 16 s) (qi 17 s) (qi 18 s) by unfold Ht Nr; rw[if_neg h3,if_pos h5]]; rfl
 · rw[show Ht s n=Lp s (qi 1 s) (AL s) (Ea s) (qi 16 s) (qi 17 s) (qi 18 s) by unfold Ht Nr; rw[if_neg h3,if_neg h5]]; rfl
 · rw[show GX s n=Lp s (qi 1 s) (Nr s n) (Ea s) (qi 16 s) (Aa3 .i64 (qi 17 s+n)) (Aa3 .i64 (qi 18 s+JP s n)) by unfold GX Rw Q9; rw[if_pos (.inl h3),if_pos (.inl h3)]]; rfl
 · rw[show GX s n=Lp s (qi 1 s) (Nr s n) (Ea s) (qi 16 s) (Aa3 .i64 (qi 17 s+n)) (Aa3 .i64 (qi 18 s+JP s n)) by unfold GX Rw Q9; rw[if_pos (.inr h5),if_pos (.inr h5)]]; rfl
 · rw[show GX s n=Ht s n by unfold GX Rw Q9; rw[if_neg (by omega),if_neg (by omega)]; rfl]
 · rw[show MO s n=Lp s 6 (Nr s n) (Ea s) (qi 16 s) (Rw s n) (Q9 s n) by unfold MO; rw[if_pos ⟨h5,Am2.1 (by omega)⟩]]; rfl
 · rw[show MO s n=GX s n by unfold MO; rw[if_neg (λa=>hz (by rw[a.2]; rfl))]; rfl]
 · rw[show MO s n=GX s n by unfold MO; rw[if_neg (λa=>h5 a.1)]; rfl]
 · unfold Fb Hz JF;rw[if_pos e0,if_pos e0,if_pos e0,e0,rng (by omega) (by omega)]; exact⟨rfl,rfl,rfl,rfl,rfl⟩
def r114:Cr PR:=Kw (λ_=>true) [r104,r112,r169,r170,r171,r109,r172,r173] 114 6 {ps:=[(true,hY),(false,hI)],rs:=[(true,hK),(false,hI),(true,hY),(false,hI)],out:=λa=>[rb [0,3] (Fb (AnQ a) (AnG a)),[.i (Hz (AnQ a) (AnG a))],rb [0,0,0,0,0,0,0,0,0,0,3,0,0,0,0,3,0,0,0] (JF (AnQ a) (AnG a)),[.i (Eg (AnQ a) (AnG a))]]} (λa=>A114 (AnQ a) (AnG a)) λa=>Y (v114 (AnQ a) (AnG a))
end Go.Sx

