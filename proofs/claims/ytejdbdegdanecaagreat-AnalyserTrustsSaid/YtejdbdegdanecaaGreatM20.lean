import Derived.Test.YtejdbdegdanecaaGreatSxUse
import Derived.Test.YtejdbdegdanecaaGreatM21
set_option linter.unusedVariables false
set_option linter.unusedSimpArgs false
set_option maxRecDepth 100000
set_option maxHeartbeats 4000000
namespace Go
open Go.Sx
theorem X7 {g:List C} {ch:Int} {da:List (List C)} (hg:BI g=true) (hb:AO ch da=true) (hc:ch=qi 5 g) (hl:qi 12 g<=4611686018427387904):
 ET g ch da=0/\(0<=CY g ch da/\CY g ch da<=(da.length:Int)/ch/\CY g ch da<=qi 0 g-Ak (Bz g)/\(CY g ch da=(da.length:Int)/ch∨CY g ch da=qi 0 g-Ak (Bz g)))/\F7 g ch da=(da.length:Int)/ch-CY g ch da/\
 CQ g ch da=sga 0 [0,0,0,0,0,0,0,0,0,0,0] g [.l (ql 11 g++da.take (CY g ch da*ch).toNat),.i (qi 12 g+F7 g ch da),.i (qi 13 g)]/\
 BI (CQ g ch da)=true/\Ak (Bz (CQ g ch da))=Ak (Bz g)+CY g ch da:=by
 have v:=LV hg;have l:=Eo hb;have c:=Df hb;have e:ET g ch da=0:=by unfold ET; rw[if_neg (by simp[hg,hb]),if_neg (by omega)]
 have nb:0<=CY g ch da/\CY g ch da<=(da.length:Int)/ch/\CY g ch da<=qi 0 g-Ak (Bz g)/\(CY g ch da=(da.length:Int)/ch∨CY g ch da=qi 0 g-Ak (Bz g)):=by unfold CY; omega
 have eL:F7 g ch da=(da.length:Int)/ch-CY g ch da:=if_pos e;have t:=Ue hb nb.1 nb.2.1;have r:=Eb v.1;have lr:((ql 11 g).length:Int)=qi 5 g*Ak (Bz g):=by rw[IJ v.1]; exact(Eo r.2).1
 have w:=QT v.1;have pv:CQ g ch da=sga 0 [0,0,0,0,0,0,0,0,0,0,0] g [.l (ql 11 g++da.take (CY g ch da*ch).toNat),.i (qi 12 g+F7 g ch da),.i (qi 13 g)]:=by
  rw[show CQ g ch da=_ from if_pos e,Gg (by omega) (by omega)]; rfl
 have ql:((ql 11 g++da.take (CY g ch da*ch).toNat).length:Int)=qi 5 g*(Ak (Bz g)+CY g ch da):=by
  rw[AlF,Amr,lr,t.2,Int.mul_add,←hc,Amo ch (CY g ch da)]
 have qd:((Go.Sx.ql 11 g++da.take (CY g ch da*ch).toNat).length:Int)/qi 5 g=Ak (Bz g)+CY g ch da:=by rw[ql,Ant _ (by omega)]
 have bl:AO (qi 5 g) (Go.Sx.ql 11 g++da.take (CY g ch da*ch).toNat)=true:=by
  rw[Pm ⟨by omega,by omega,by rw[ql,Int.mul_emod_right],by rw[qd]; omega⟩,List.all_append];exact Bool.and_eq_true_iff.2 ⟨NM r.2,NM t.1⟩
 have rv:AX (Bz (CQ g ch da))=true:=by
  rw[pv];show(Bh (Bg (Bz g))&&AO (qi 5 g) (Go.Sx.ql 11 g++da.take (CY g ch da*ch).toNat))=true;rw[r.1,bl]; rfl
 have rw':Ak (Bz (CQ g ch da))=Ak (Bz g)+CY g ch da:=by
  rw[IJ rv,←qd,pv]; rfl
 refine⟨e,nb,eL,pv,?_,rw'⟩;unfold BI;rw[rv,rw',pv];simp only[AlG,AlE];exact⟨trivial,v.2.1,v.2.2.1,v.2.2.2.1,by show _<=qi 0 g; omega,by show 0<=qi 12 g+F7 g ch da; omega,v.2.2.2.2.2.2⟩
theorem X6 {b:List C} {n:Int} (hb:BI b=true) (h0:0<=n) (h1:n<=65536) (hp:qi 9 b<=1125899906777088) (hm:qi 13 b<=4611686018427387904):
 D8 b n=0/\(0<=AC b n/\AC b n<=n/\∀m,0<=m->m<=n->JQ (Ho b) m<=Ak (Bz b)->m<=AC b n)/\(0<=BX (BQ b) (AC b n)/\BX (BQ b) (AC b n)<=Ak (Bz b))/\
 Ez b n=[.i (qi 0 b),.i (qi 1 b),.i (qi 2 b),.i (qi 3 b),.i (qi 4 b),.i (qi 5 b),.i (qi 6 b),.i (qi 7 b),.i (OO b),.i (qi 9 b+BX (BQ b) (AC b n)),.i (Nq (BQ b) (AC b n)),.l ((ql 11 b).drop (BX (BQ b) (AC b n)*qi 5 b).toNat),.i (qi 12 b),.i (qi 13 b+(n-AC b n))]/\
 BI (Ez b n)=true/\Ak (Bz (Ez b n))=Ak (Bz b)-BX (BQ b) (AC b n)/\((I9 b n).length:Int)=n*qi 5 b/\Jg b n=qi 5 b/\Jm b n=n-AC b n:=by
 have q:=XO hb h0 h1;have v:=LV hb;have r:=Eb v.1;have c:=Df r.2;have c0:1<=qi 5 b/\qi 5 b<=8:=⟨c.1,c.2.1⟩
 have w:=QT v.1;have p:=Xb hb;have er:=q.2.2.1;have M0:=q.2.2.2.1;have M1:=q.2.2.2.2.1;have kb:=NE (n:=AC b n) p.2 M0 (by omega);have pe:=OA (n:=AC b n) p.2 M0 (by omega);have eK:BX (BQ b) (AC b n)=DV (Ho b) (AC b n)/AZ (Ho b):=by unfold BX; rw[er]
 have eF:Nq (BQ b) (AC b n)=DV (Ho b) (AC b n) % AZ (Ho b):=by unfold Nq; rw[er]
 have KW:BX (BQ b) (AC b n)<=Ak (Bz b):=by
  have h:=q.2.2.2.2.2.1;rw[eK];by_cases hz:AC b n=0
  · have pv:=KE p.2;rw[hz];unfold DV;rw[Int.zero_mul,Int.add_zero,Int.ediv_eq_zero_of_lt (by omega) (by omega)]; omega
  · unfold JQ at h; rw[if_neg hz]at h; omega
 have K0:0<=BX (BQ b) (AC b n):=by rw[eK]; omega
 have pos:qi 3 (Ho b)=qi 9 b:=by rw[p.1]; rfl
 have eX:DR (Ho b) (AC b n)=qi 9 b+BX (BQ b) (AC b n):=by rw[pe.2.1,eK,pos]
 have es:FB (BQ b) (AC b n)=0:=by
  unfold FB HY;rw[er,if_neg (by rw[eX]; omega)];exact pe.1
 have e0:D8 b n=0:=q.2.2.2.2.2.2.trans es;have y:=V7 e0;have lr:((ql 11 b).length:Int)=qi 5 b*Ak (Bz b):=by rw[IJ v.1]; exact(Eo r.2).1
 have mb:=Aa8 (x:=BX (BQ b) (AC b n)) (X:=65536) (y:=qi 5 b) (Y:=8) K0 (by omega) (by omega) (by omega);have pg:Qx (BQ b) (AC b n)=BX (BQ b) (AC b n)*qi 5 b:=by
  unfold Qx;rw[q.2.1,Int.min_eq_left KW]; rfl
 have pv:Ez b n=[.i (qi 0 b),.i (qi 1 b),.i (qi 2 b),.i (qi 3 b),.i (qi 4 b),.i (qi 5 b),.i (qi 6 b),.i (qi 7 b),.i (OO b),.i (qi 9 b+BX (BQ b) (AC b n)),.i (Nq (BQ b) (AC b n)),.l ((ql 11 b).drop (BX (BQ b) (AC b n)*qi 5 b).toNat),.i (qi 12 b),.i (qi 13 b+(n-AC b n))]:=by
  rw[y.2.2.2,show H8 (BQ b) (AC b n)=_ from if_pos es,er,eX,pe.2.2,←eF,pg,Gg (by omega) (by omega)];unfold BQ;rw[p.1]; rfl
 have ld:(((ql 11 b).drop (BX (BQ b) (AC b n)*qi 5 b).toNat).length:Int)=qi 5 b*(Ak (Bz b)-BX (BQ b) (AC b n)):=by
  have m:=AlS KW (show 0<=qi 5 b by omega);rw[Amo (Ak (Bz b))]at m;rw[Amk,Int.mul_sub,Amo (qi 5 b) (BX (BQ b) (AC b n))]; omega
 have qd:(((ql 11 b).drop (BX (BQ b) (AC b n)*qi 5 b).toNat).length:Int)/qi 5 b=Ak (Bz b)-BX (BQ b) (AC b n):=by rw[ld,Ant _ (by omega)]
 have bl:AO (qi 5 b) ((ql 11 b).drop (BX (BQ b) (AC b n)*qi 5 b).toNat)=true:=by
  rw[Pm ⟨by omega,by omega,by rw[ld,Int.mul_emod_right],by rw[qd]; omega⟩];exact Al6.2 λx hx=>Al6.1 (NM r.2) x (Al3 hx)
 have a:=WS hb;have rv:AX (Bz (Ez b n))=true:=by
  rw[pv];show(Bh [.i (qi 6 b),.i (qi 7 b),.i (OO b),.i (qi 9 b+BX (BQ b) (AC b n)),.i (Nq (BQ b) (AC b n))]&&AO (qi 5 b) ((ql 11 b).drop (BX (BQ b) (AC b n)*qi 5 b).toNat))=true;rw[bl,Bool.and_true];have u:=p.2;have uv:=KE p.2;rw[p.1]at u;unfold Bh AZ at u ⊢;rw[AlG,AlE]at u ⊢;have eQ:AZ (Ho b)=qi 7 b*65536:=by rw[p.1]; rfl
  exact⟨u.1,u.2.1,u.2.2.1,a.1,a.2,by show 0<=qi 9 b+_; omega,by show qi 9 b+_<=_; omega,by show 0<=Nq _ _; rw[eF]; omega,by show Nq _ _<qi 7 b*65536; rw[eF,←eQ]; omega⟩
 have rw':Ak (Bz (Ez b n))=Ak (Bz b)-BX (BQ b) (AC b n):=by rw[IJ rv,←qd,pv]; rfl
 refine⟨e0,⟨M0,M1,λm m0 m1 hn=> ?_⟩,⟨K0,KW⟩,pv,?_,rw',?_,y.1,y.2.2.1⟩
 · have i:=(Sr (m:=m) p.2 w.1 m0 (by omega)).1 hn;have em:Gq (Ho b) (Ak (Bz b))=MK (Ho b) (Ak (Bz b)):=if_pos (Ur p.2 w.1 (by omega));unfold AC;rw[em];show m<=min _ n;omega
 · unfold BI;rw[rv,rw',pv];simp only[AlG,AlE];exact⟨trivial,v.2.1,v.2.2.1,v.2.2.2.1,by show _<=qi 0 b; omega,v.2.2.2.2.2.1,by show 0<=qi 13 b+(n-AC b n); omega⟩
 · have ln:=P9 (BQ b) (AC b n) (by show 0<=qi 5 b; omega);have z:0<=qi 5 b*(n-AC b n):=Al1 (by omega) (by omega);rw[y.2.1,AlF,Amr,ln,UI,Amc z,Amc M0,show qi 0 (BQ b)=qi 5 b from rfl,Amo (qi 5 b),←Amt];congr 1; omega
end Go

