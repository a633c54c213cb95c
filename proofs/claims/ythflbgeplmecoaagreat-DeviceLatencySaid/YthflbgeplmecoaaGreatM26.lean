import Derived.Test.YthflbgeplmecoaaGreatSxUse
import Derived.Test.YthflbgeplmecoaaGreatM24
import Derived.Test.YthflbgeplmecoaaGreatM13
import Derived.Test.YthflbgeplmecoaaGreatM20
set_option linter.unusedVariables false
set_option linter.unusedSimpArgs false
set_option maxRecDepth 100000
set_option maxHeartbeats 4000000
noncomputable section
namespace Go
open Go.Sx
def Sp.duT (d:List C) (k:Int):Int:=qi 16 d+k*qi 13 d
def Sp.duL (d:List C) (n:Int):List (List C):=(List.range n.toNat).map fun(k:Nat)=>[.i (Sp.btV (ql 14 d) (Sp.duT d k) (Sp.duT d k+qi 13 d))]
def Sp.duI (d:List C) (q n:Int):Prop:=Sp.dvV d=true∧0≤n∧n≤q
end Go
namespace Go
open Go.Sx Go.Proofs
structure Sp.Win (p dl et N:Int) (E C:Int→Int):Prop where
 e:∀i j,0≤i→i≤j→j≤N→E j-E i≤(j-i)*dl+et∧-((j-i)*dl+et)≤E j-E i
 c:∀i j,0≤i→i≤j→j≤N+1→65536*(C j-C i)≤(j-i)*(p+dl)+et∧(j-i)*(p-dl)-et≤65536*(C j-C i)∧C i≤C j
def Sp.ctU (X m k V:Int) (E C:Int→Int):Prop:=V≤X∨∃i,0≤i∧i<k∧V≤X+(E k-E i)+2*(m*(C (i+1)-C i))-m*(C k-C i)
theorem Sp.Win.neg {p dl et N:Int} {E C:Int→Int} (h:Sp.Win p dl et N E C):Sp.Win p dl et N (fun i=> -E i) C:=
 ⟨fun i j a b c=>by have:=h.e i j a b c; omega,h.c⟩
theorem Sp.ctU_step {X m k V V' a:Int} {E C:Int→Int} (h:Sp.ctU X m k V E C) (k0:0≤k) (hc:C k≤C (k+1)) (ha: -m≤a) (hs:X<V→a=m) (hv:V'=V+(E (k+1)-E k)-a*(C (k+1)-C k)):Sp.ctU X m (k+1) V' E C:=by
 by_cases hx:X<V
 · have:=hs hx; subst this
   obtain h|⟨i,i0,i1,h⟩:=h
   · omega
   · refine .inr ⟨i,i0,by omega,?_⟩
     simp only[Int.mul_sub]at*
     omega
 · refine .inr ⟨k,k0,by omega,?_⟩
   have q:=Int.mul_nonneg (show 0≤a+m by omega) (show 0≤C (k+1)-C k by omega)
   rw[Int.add_mul]at q
   omega
theorem Sp.ctU_bd {X m k V Q p dl et N dr wob Y:Int} {E C:Int→Int} (h:Sp.ctU X m k V E C) (hw:Sp.Win p dl et N E C) (hk:k≤N) (m0:0≤m) (m1:m≤4096) (d0:0≤dr) (p0:0≤p) (e0:0≤et) (eY:et≤Y)
 (hd:65536*dl=p*dr) (hm:65536*dr≤m*(65536-dr)) (hq:2*(p*(dr+m))≤65536*(Q*wob)) (q0:0≤Q*wob):V≤X+Q*wob+2*Y:=by
 obtain h|⟨i,i0,i1,h⟩:=h
 · omega
 have c1:=(hw.c i (i+1) i0 (by omega) (by omega)).1
 have c2:=(hw.c i k i0 (by omega) (by omega)).2.1
 have e1:=(hw.e i k i0 (by omega) hk).1
 rw[show i+1-i=1 by omega,Int.one_mul]at c1
 have w0:0≤k-i:=by omega
 generalize k-i=w at*
 generalize C (i+1)-C i=c at*
 generalize C k-C i=s at*
 generalize E k-E i=e at*
 have n1:=Int.mul_le_mul_of_nonneg_left c1 m0
 have n2:=Int.mul_le_mul_of_nonneg_left c2 m0
 have g0:0≤m*dr:=Int.mul_nonneg m0 d0
 have f1:65536*dl+m*dl≤m*p:=by
  have t:=Int.mul_le_mul_of_nonneg_left hm p0
  have u:65536*(m*dl)=p*(m*dr):=by
   rw[show 65536*(m*dl)=m*(65536*dl) by rw[←Int.mul_assoc,Int.mul_comm 65536 m,Int.mul_assoc],hd,←Int.mul_assoc,Int.mul_comm m p,Int.mul_assoc]
  have v:p*(65536*dr)=65536*(p*dr):=by rw[←Int.mul_assoc,Int.mul_comm p 65536,Int.mul_assoc]
  have x:p*(m*(65536-dr))=65536*(m*p)-p*(m*dr):=by
   rw[Int.mul_sub,Int.mul_sub,←Int.mul_assoc p m 65536,Int.mul_comm p m,Int.mul_comm (m*p) 65536]
  omega
 have f2:=Int.mul_le_mul_of_nonneg_left f1 w0
 have f3:m*dl≤p*dr:=by
  have t:=Int.mul_le_mul_of_nonneg_right m1 (Int.mul_nonneg p0 d0)
  have u:65536*(m*dl)=m*(p*dr):=by rw[←hd,←Int.mul_assoc,Int.mul_comm 65536 m,Int.mul_assoc]
  have:=Int.mul_nonneg p0 d0
  omega
 have f4:=Int.mul_le_mul_of_nonneg_right m1 e0
 have z0:w*(65536*dl+m*dl)=65536*(w*dl)+m*(w*dl):=by
  rw[Int.mul_add,←Int.mul_assoc w 65536,Int.mul_comm w 65536,Int.mul_assoc,←Int.mul_assoc w m,Int.mul_comm w m,Int.mul_assoc]
 have z1:w*(m*p)=m*(w*p):=by rw[←Int.mul_assoc,Int.mul_comm w m,Int.mul_assoc]
 have z2:m*(65536*c)=65536*(m*c):=by rw[←Int.mul_assoc,Int.mul_comm m 65536,Int.mul_assoc]
 have z3:m*(65536*s)=65536*(m*s):=by rw[←Int.mul_assoc,Int.mul_comm m 65536,Int.mul_assoc]
 simp only[Int.mul_sub,Int.mul_add]at*
 have pm:p*m=m*p:=Int.mul_comm _ _
 omega
theorem Sp.ct_need {m c a Q p dl et dr wob Y:Int} (c0:0≤c) (hc:65536*c≤p+dl+et) (ha:a≤m) (m0:0≤m) (m1:m≤4096) (d0:0≤dr) (p0:0≤p) (e0:0≤et) (eY:et≤Y)
 (hd:65536*dl=p*dr) (hq:2*(p*(dr+m))≤65536*(Q*wob)):c*(65536+a)≤p+Q*wob+2*Y:=by
 have n0:=Int.mul_le_mul_of_nonneg_left ha c0
 have n1:=Int.mul_le_mul_of_nonneg_left hc m0
 have f3:m*dl≤p*dr:=by
  have t:=Int.mul_le_mul_of_nonneg_right m1 (Int.mul_nonneg p0 d0)
  have u:65536*(m*dl)=m*(p*dr):=by rw[←hd,←Int.mul_assoc,Int.mul_comm 65536 m,Int.mul_assoc]
  have:=Int.mul_nonneg p0 d0
  omega
 have f4:=Int.mul_le_mul_of_nonneg_right m1 e0
 have z2:m*(65536*c)=65536*(m*c):=by rw[←Int.mul_assoc,Int.mul_comm m 65536,Int.mul_assoc]
 have pm:p*m=m*p:=Int.mul_comm _ _
 have cm:c*m=m*c:=Int.mul_comm _ _
 have mp:=Int.mul_nonneg m0 p0
 simp only[Int.mul_add]at*
 omega
theorem Sp.duL_len (d:List C) {n:Int} (h:0≤n):((Sp.duL d n).length:Int)=n:=by
 unfold Sp.duL; rw[List.length_map,List.length_range]; omega
theorem Sp.duL_s (d:List C) {n:Int} (h:0≤n):Sp.duL d n++[[.i (Sp.btV (ql 14 d) (Sp.duT d n) (Sp.duT d n+qi 13 d))]]=Sp.duL d (n+1):=by
 unfold Sp.duL
 rw[show(n+1).toNat=n.toNat+1 by omega,List.range_succ,List.map_append,List.map_singleton,Int.toNat_of_nonneg h]
theorem Sp.duL_at (d:List C) {n i:Int} (h:0≤i) (h1:i<n):qi 0 (rGet (Sp.duL d n) i)=Sp.btV (ql 14 d) (Sp.duT d i) (Sp.duT d i+qi 13 d):=by
 have e:rGet (Sp.duL d n) i=[.i (Sp.btV (ql 14 d) (Sp.duT d i) (Sp.duT d i+qi 13 d))]:=by
  unfold Sp.duL rGet
  simp[List.getD_eq_getElem?_getD,show i.toNat<n.toNat by omega,Int.toNat_of_nonneg h]
 rw[e]; rfl
theorem Sp.q_le {Q z b f:Int} (hQ:1≤Q) (f0:0≤f) (f1:f<Q) (h:Q*z-f≤Q*b):z≤b:=by
 by_cases c:z≤b
 · exact c
 · have m:=Int.mul_le_mul_of_nonneg_left (show b+1≤z by omega) (show 0≤Q by omega)
   rw[Int.mul_add,Int.mul_one]at m; omega
theorem Sp.q_ge {Q z b f:Int} (hQ:1≤Q) (f0:0≤f) (h:Q*b≤Q*z-f):b≤z:=by
 by_cases c:b≤z
 · exact c
 · have m:=Int.mul_le_mul_of_nonneg_left (show z+1≤b by omega) (show 0≤Q by omega)
   rw[Int.mul_add,Int.mul_one]at m; omega
theorem Sp.adj_b {t d m n A:Int} (h:Sp.valid t d 16 m=true) (n0:0≤n) (n1:n≤65536) (hA:d+Sp.up m 16≤A): -m≤Sp.adjust t d 16 m n∧Sp.adjust t d 16 m n≤m∧(A+1≤n-t→Sp.adjust t d 16 m n=m)∧(n-t≤-(A+1)→Sp.adjust t d 16 m n= -m):=by
 have v:=(Sp.valid_iff t d 16 m).1 h
 have u:=Sp.up_ge (a:=m) (b:=16) (by decide)
 unfold Sp.adjust
 rw[if_neg (by rw[h]; simp; omega)]
 split<;>omega
end Go
namespace Go.Sx
def A36 (d:List C) (q:Int):FuncId→Nat→LoopAnn:=fun _ _=> .ghost 5 hI 3 (.on (fun sv0=>match sv0.tmps.getD 5 .undef with| .own rr _=> .inv Int (fun z=>Sp.duI d q z) (fun z=>[(6,.int .i64 z),(5,.own rr 0)]) (fun z=>[(rr,.row hI 3 0 (Sp.duL d z))]) [rr] [0,1,2,4,5,6,7,8,12] (fun z=>(q-z).toNat)|_=> .unroll 0))
def m36_0 (d:List C) (x:Int):Int:=(Sp.btV (ql 14 d) (iAdd (qi 16 d) (iMul x (qi 13 d))) (iAdd (iAdd (qi 16 d) (iMul x (qi 13 d))) (qi 13 d)))
theorem v36 (d:List C) (q:Int):WD hV d∧InR .i64 q→Sp.dvV d=true∧pLe 0 q∧pLe q 1000→(∃(x:Int),Sp.duI d q x∧0=x∧[]=Sp.duL d x)∧∀(x:Int),Sp.duI d q x→InR .i64 x∧WL hI (Sp.duL d x)→Cn (bLt x q) (InR .i64 (iMul x (qi 13 d))∧InR .i64 (iAdd (qi 16 d) (iMul x (qi 13 d)))∧InR .i64 (iAdd (iAdd (qi 16 d) (iMul x (qi 13 d))) (qi 13 d))∧True∧(InR .i64 (m36_0 d x)∧InR .i64 (Sp.btE (ql 14 d) (iAdd (qi 16 d) (iMul x (qi 13 d))) (iAdd (iAdd (qi 16 d) (iMul x (qi 13 d))) (qi 13 d)))→pRoom 8 (iLen (Sp.duL d x++[[C.i (m36_0 d x)]]))∧InR .i64 (iAdd x 1)∧Sm (sg 0 [0,2,0,0,0,0,0,3,0,0,3,0,0,0,3,1,0,0,0,0,0,0,0,0,0,0,0,0,3,0,0] d)∧Sm q∧Sm (sg 0 [0,2,0,0,0,0,0,3,0,0,3,0,0,0,3,1,0,0,0,0,0,0,0,0,0,0,0,0,3,0,0] d)∧∃(y:Int),Sp.duI d q y∧iAdd x 1=y∧Sp.duL d x++[[C.i (m36_0 d x)]]=Sp.duL d y∧nLt (q-y).toNat (q-x).toNat)) (Sp.duL d x=Sp.duL d q):=by
 intro hw hp
 delta m36_0
 have hv:=hp.1
 have q0:=hp.2.1
 have q1:=hp.2.2
 simp only[D]at q0 q1
 have b:=Sp.dv_b hv
 have s:=(Sp.dvV_of hv).2.1
 have rng:∀ {k:Int},-1000000000000000000≤k→k≤1000000000000000000→InR .i64 k:=fun a b=>by simp only[InR]; omega
 simp only[D,E]
 refine⟨⟨0,⟨hv,by omega,q0⟩,rfl,rfl⟩,fun x hx _=>⟨fun hl=> ?_,fun hl=>by rw[show x=q by have:=hx.2.2; omega]⟩⟩
 have x0:=hx.2.1
 have m:=mul_bd (x:=x) (X:=1000) (y:=qi 13 d) (Y:=8192) x0 (by omega) (by omega) (by omega)
 refine⟨rng (by omega) (by omega),rng (by omega) (by omega),rng (by omega) (by omega),fun _=>⟨?_,rng (by omega) (by omega),x+1,⟨hv,by omega,by omega⟩,rfl,Sp.duL_s d x0,by omega⟩⟩
 have:=Sp.duL_len d x0
 rw[List.length_append,List.length_singleton]; omega
def r36:Cr PR:=K [r65] 36 6 {ps:=[(true,hV),(false,hI)],rs:=[(false,hL)],pre:=fun a=>Sp.dvV (arg 0 a)=true∧(pLe 0 (I a 1 0)∧pLe (I a 1 0) 1000),out:=fun a=>[[.l (Sp.duL (arg 0 a) (I a 1 0))]]} (fun a=>A36 (arg 0 a) (I a 1 0)) fun a=>Y (v36 (arg 0 a) (I a 1 0))
end Go.Sx

set_option linter.unusedVariables false
set_option linter.unusedSimpArgs false
set_option maxRecDepth 100000
set_option maxHeartbeats 4000000
namespace Go
open Go.Sx
def Sp.tau (d:List C) (k:Int):Int:=Sp.posn (ql 14 d) (Sp.duT d k)
def Sp.hoU (d:List C) (k:Int):Int:=if qi 2 d=1 then qi 13 d*(k+1)else Sp.tau d (k+1)
def Sp.hoW (d:List C) (k:Int):Int:=if qi 2 d=1 then Sp.tau d k else qi 13 d*k
def Sp.hoQ (d:List C):Int:=qi 24 d*65536
def Sp.hoC (d:List C) (k:Int):Int:=qi 23 d*Sp.hoW d k
def Sp.hoE (d:List C) (k:Int):Int:=Sp.hoQ d*Sp.hoU d k-65536*Sp.hoC d k
def Sp.hoV (d0 d:List C) (k:Int):Int:=Sp.hoQ d0*(Sp.rsW (Sp.br (Sp.dg d))+(Sp.hoU d0 k-Sp.hoU d0 (k-1))-qi 18 d0)-qi 27 d
structure Sp.HoS (d:List C) (A w j p dl et:Int):Prop where
 win:Sp.Win p dl et 29 (Sp.hoE d) (Sp.hoC d)
 d0:1≤qi 24 d
 n0:1≤qi 23 d
 m0:0≤qi 21 d
 m1:qi 21 d≤4096
 dr:0≤qi 5 d
 p0:0≤p
 e0:0≤et
 eY:et≤Sp.hoQ d*(j-1)
 hd:65536*dl=p*qi 5 d
 hm:65536*qi 5 d≤qi 21 d*(65536-qi 5 d)
 hq:2*(p*(qi 5 d+qi 21 d))≤65536*(Sp.hoQ d*w)
 w0:0≤w
 j1:1≤j
 A0:0≤A
 u:∃u,p≤Sp.hoQ d*u∧u+w+2*j+3+(A+w+2*j+2)≤qi 18 d
 cap:qi 18 d+(A+w+2*j+2)≤qi 17 d
 val:Sp.valid (qi 18 d) (qi 19 d) 16 (qi 21 d)=true
 ad:qi 19 d+Sp.up (qi 21 d) 16≤A
def Sp.hoJ (d0:List C) (k:Int) (d:List C):Prop:=∃A w j p dl et,Sp.HoS d0 A w j p dl et∧(0≤k∧k≤30)∧(Sp.dvV d=true∧qb 15 d=true)∧
 (qi 2 d=qi 2 d0∧qi 13 d=qi 13 d0∧qi 16 d=qi 16 d0∧ql 14 d=ql 14 d0∧(ql 10 d).length=(ql 10 d0).length∧qi 17 d=qi 17 d0∧qi 18 d=qi 18 d0∧qi 19 d=qi 19 d0∧qi 20 d=16∧qi 21 d=qi 21 d0∧qi 23 d=qi 23 d0∧qi 24 d=qi 24 d0)∧
 (qi 29 d=0∧qi 30 d=0∧0≤qi 26 d∧qi 26 d≤65536*k)∧(0≤qi 27 d∧qi 27 d<Sp.hoQ d0)∧
 (k≤29→Sp.ctU (Sp.hoQ d0*A) (qi 21 d0) k (Sp.hoV d0 d k) (Sp.hoE d0) (Sp.hoC d0)∧Sp.ctU (Sp.hoQ d0*(A+1)) (qi 21 d0) k (-Sp.hoV d0 d k) (fun i=> -Sp.hoE d0 i) (Sp.hoC d0))
end Go
namespace Go
open Go.Sx Go.Proofs
theorem Sp.ho_step {d0 d:List C} {k ch n:Int} {da:List (List C)} (hj:Sp.hoJ d0 k d) (hk:k≤29) (hb:Sp.blk ch da=true) (hc:ch=((ql 10 d).length:Int)) (hl:(da.length:Int)/ch=Sp.hoU d0 k-Sp.hoU d0 (k-1)) (hn:n=Sp.hoW d0 (k+1)-Sp.hoW d0 k) (n0:0≤n) (n1:n≤65536):
    Sp.mvE d ch da n=0∧Sp.mvC d ch da n=ch∧Sp.mvL d ch da n=0∧Sp.mvM d ch da n=0∧Sp.frm ch (Sp.mvD d ch da n)=n∧Sp.hoJ d0 (k+1) (Sp.mvV d ch da n)∧qi 26 (Sp.mvV d ch da n)+Sp.rsW (Sp.br (Sp.dg (Sp.mvV d ch da n)))=qi 26 d+Sp.rsW (Sp.br (Sp.dg d))+(Sp.hoU d0 k-Sp.hoU d0 (k-1)):=by
  obtain⟨A,w,j,p,dl,et,S,⟨k0,k1⟩,⟨hv,hr⟩,⟨g2,g13,g16,g14,g10,g17,g18,g19,g20,g21,g23,g24⟩,⟨l29,l30,p0,p1⟩,⟨f0,f1⟩,hct⟩:=hj
  obtain⟨m1,m2,m3,m4,m5,m6,m7,m8,m9,m10,m11,m12,m13⟩:=Sp.mv_ok hv hb hc n0 n1 (by omega) (by omega) (by omega)
  obtain⟨u,hu,hu2⟩:=S.u
  have Q1:1≤Sp.hoQ d0:=by have:=S.d0; unfold Sp.hoQ; omega
  have Qw:=Int.mul_nonneg (show 0≤Sp.hoQ d0 by omega) S.w0
  have ct:=hct hk
  unfold Sp.hoV at ct
  rw[hl]at m8 m13 m3
  have bU:=Sp.ctU_bd ct.1 S.win (by omega) S.m0 S.m1 S.dr S.p0 S.e0 S.eY S.hd S.hm S.hq Qw
  have bL:=Sp.ctU_bd ct.2 S.win.neg (by omega) S.m0 S.m1 S.dr S.p0 S.e0 S.eY S.hd S.hm S.hq Qw
  have e1:Sp.hoQ d0*A+Sp.hoQ d0*w+2*(Sp.hoQ d0*(j-1))=Sp.hoQ d0*(A+w+2*(j-1)):=by
    rw[Int.mul_add,Int.mul_add,Int.mul_left_comm (Sp.hoQ d0) 2]
  have e2:Sp.hoQ d0*(A+1)+Sp.hoQ d0*w+2*(Sp.hoQ d0*(j-1))= -(Sp.hoQ d0* -(A+1+w+2*(j-1))):=by
    rw[Int.mul_neg,Int.neg_neg,Int.mul_add _ (A+1+w),Int.mul_add _ (A+1) w,Int.mul_left_comm (Sp.hoQ d0) 2]
  rw[e1]at bU
  rw[e2]at bL
  have zU:=Sp.q_le Q1 f0 f1 bU
  have zL:=Sp.q_ge Q1 f0 (Int.neg_le_neg_iff.1 bL)
  have cap:=S.cap
  have j1:=S.j1
  have A0:=S.A0
  have w0:=S.w0
  have W0:=(Sp.bgV_of (Sp.dvV_of hv).2.2.1).2.2
  have eN:Sp.puN (Sp.dg d) ch da=Sp.hoU d0 k-Sp.hoU d0 (k-1):=by omega
  rw[eN]at m3 m9 m13
  obtain⟨gB,wB,eB⟩:=m9
  have hwB:=Sp.rsW_bd (Sp.bgV_of gB).1
  have P:=Sp.pP_eq gB
  have PL:=Sp.pull gB n0 n1
  have PO:=Sp.pull_ok gB n0 n1 (by rw[eB]; show qi 26 d≤_; omega) (by rw[eB]; show qi 30 d≤_; omega)
  have c6:qi 6 (Sp.mvB d ch da)=qi 23 d0:=by rw[eB]; exact g23
  have c7:qi 7 (Sp.mvB d ch da)=qi 24 d0:=by rw[eB]; exact g24
  have c10:qi 10 (Sp.mvB d ch da)=qi 27 d:=by rw[eB]; rfl
  have ea:Sp.pA (Sp.mvB d ch da)=Sp.adjust (qi 18 d0) (qi 19 d0) 16 (qi 21 d0) (Sp.rsW (Sp.br (Sp.mvB d ch da))):=by
    rw[←g18,←g19,←g20,←g21]; unfold Sp.pA; rw[eB]; rfl
  have ad:=Sp.adj_b (n:=Sp.rsW (Sp.br (Sp.mvB d ch da))) S.val hwB.1 hwB.2 S.ad
  rw[←ea]at ad
  have pA_:∀x,Sp.phA (Sp.pP (Sp.mvB d ch da)) x=qi 27 d+x*(qi 23 d0*(65536+Sp.pA (Sp.mvB d ch da))):=fun x=>by
    rw[P.1,←c6,←c10]; rfl
  have pQ:Sp.phQ (Sp.pP (Sp.mvB d ch da))=Sp.hoQ d0:=by rw[P.1]; unfold Sp.hoQ; rw[←c7]; rfl
  have hC:Sp.hoC d0 (k+1)-Sp.hoC d0 k=qi 23 d0*n:=by unfold Sp.hoC; rw[hn,Int.mul_sub]
  have wc:=S.win.c k (k+1) k0 (by omega) (by omega)
  rw[hC,show k+1-k=1 by omega,Int.one_mul]at wc
  have c0:0≤qi 23 d0*n:=by omega
  have nd:=Sp.ct_need c0 wc.1 ad.2.1 S.m0 S.m1 S.dr S.p0 S.e0 S.eY S.hd S.hq
  have ec:n*(qi 23 d0*(65536+Sp.pA (Sp.mvB d ch da)))=qi 23 d0*n*(65536+Sp.pA (Sp.mvB d ch da)):=by rw[←Int.mul_assoc,Int.mul_comm n]
  have hA:=pA_ n
  rw[ec]at hA
  have e3:Sp.hoQ d0*u+Sp.hoQ d0*w+2*(Sp.hoQ d0*(j-1))=Sp.hoQ d0*(u+w+2*(j-1)):=by
    rw[Int.mul_add,Int.mul_add,Int.mul_left_comm (Sp.hoQ d0) 2]
  have hAq:Sp.phA (Sp.pP (Sp.mvB d ch da)) n/Sp.hoQ d0<u+w+2*(j-1)+1:=Int.ediv_lt_of_lt_mul (by omega) (by
    rw[Int.add_mul,Int.one_mul,Int.mul_comm (u+w+2*(j-1))]; omega)
  have need:Sp.phN (Sp.pP (Sp.mvB d ch da)) n≤Sp.rsW (Sp.br (Sp.mvB d ch da)):=by
    unfold Sp.phN
    split
    · omega
    · have s0:0≤qi 23 d0*(65536+Sp.pA (Sp.mvB d ch da)):=Int.mul_nonneg (by have:=S.n0; omega) (by have:=S.m1; omega)
      have le:Sp.phA (Sp.pP (Sp.mvB d ch da)) (n-1)≤Sp.phA (Sp.pP (Sp.mvB d ch da)) n:=by
        rw[pA_,pA_,Int.sub_mul,Int.one_mul]; omega
      have q:=Int.ediv_le_ediv (show 0<Sp.hoQ d0 by omega) le
      rw[pQ]; omega
  have eM:Sp.plM (Sp.mvB d ch da) n=n:=by have:=m10.2.2 n n0 (Int.le_refl _) need; omega
  have qe:=Int.mul_ediv_add_emod (Sp.phA (Sp.pP (Sp.mvB d ch da)) n) (Sp.hoQ d0)
  have ql0:=Int.emod_nonneg (Sp.phA (Sp.pP (Sp.mvB d ch da)) n) (show Sp.hoQ d0≠0 by omega)
  have ql1:=Int.emod_lt_of_pos (Sp.phA (Sp.pP (Sp.mvB d ch da)) n) (show 0<Sp.hoQ d0 by omega)
  have eK:Sp.frK (Sp.pR (Sp.mvB d ch da)) n=Sp.phA (Sp.pP (Sp.mvB d ch da)) n/Sp.hoQ d0:=by unfold Sp.frK; rw[PL.2.2.1,pQ]
  have eF:Sp.frF (Sp.pR (Sp.mvB d ch da)) n=Sp.phA (Sp.pP (Sp.mvB d ch da)) n % Sp.hoQ d0:=by unfold Sp.frF; rw[PL.2.2.1,pQ]
  rw[eM,eK]at m11 m12
  rw[eM,eK,eF]at m13
  have fl:qi 17 (Sp.mvV d ch da n)=qi 17 d∧qi 18 (Sp.mvV d ch da n)=qi 18 d∧qi 19 (Sp.mvV d ch da n)=qi 19 d∧qi 20 (Sp.mvV d ch da n)=qi 20 d∧qi 21 (Sp.mvV d ch da n)=qi 21 d∧qi 23 (Sp.mvV d ch da n)=qi 23 d∧qi 24 (Sp.mvV d ch da n)=qi 24 d∧qi 2 (Sp.mvV d ch da n)=qi 2 d∧qi 13 (Sp.mvV d ch da n)=qi 13 d∧qi 16 (Sp.mvV d ch da n)=qi 16 d∧ql 14 (Sp.mvV d ch da n)=ql 14 d∧ql 10 (Sp.mvV d ch da n)=ql 10 d∧qb 15 (Sp.mvV d ch da n)=qb 15 d:=by
    rw[m6,PO.2.2.2.1,eB]; exact⟨rfl,rfl,rfl,rfl,rfl,rfl,rfl,rfl,rfl,rfl,rfl,rfl,rfl⟩
  obtain⟨y17,y18,y19,y20,y21,y23,y24,y2,y13,y16,y14,y10,y15⟩:=fl
  refine⟨m1,m2,by omega,by omega,m5,⟨A,w,j,p,dl,et,S,⟨by omega,by omega⟩,⟨m7,y15.trans hr⟩,⟨y2.trans g2,y13.trans g13,y16.trans g16,y14.trans g14,by rw[y10]; exact g10,y17.trans g17,y18.trans g18,y19.trans g19,y20.trans g20,y21.trans g21,y23.trans g23,y24.trans g24⟩,⟨by omega,by omega,by omega,by omega⟩,⟨by omega,by omega⟩,fun hk'=> ?_⟩,by omega⟩
  unfold Sp.hoV
  rw[m12,m13.2.1,wB,show k+1-1=k by omega]
  have hE:Sp.hoE d0 (k+1)-Sp.hoE d0 k=Sp.hoQ d0*(Sp.hoU d0 (k+1)-Sp.hoU d0 k)-65536*(qi 23 d0*n):=by
    rw[←hC]; unfold Sp.hoE Sp.hoC; rw[Int.mul_sub]; omega
  have ex:Sp.hoQ d0*(Sp.rsW (Sp.br (Sp.dg d))+(Sp.hoU d0 k-Sp.hoU d0 (k-1))-Sp.phA (Sp.pP (Sp.mvB d ch da)) n/Sp.hoQ d0+(Sp.hoU d0 (k+1)-Sp.hoU d0 k)-qi 18 d0)=Sp.hoQ d0*(Sp.rsW (Sp.br (Sp.dg d))+(Sp.hoU d0 k-Sp.hoU d0 (k-1))-qi 18 d0)-Sp.hoQ d0*(Sp.phA (Sp.pP (Sp.mvB d ch da)) n/Sp.hoQ d0)+Sp.hoQ d0*(Sp.hoU d0 (k+1)-Sp.hoU d0 k):=by
    rw[←Int.mul_sub,←Int.mul_add]; congr 1; omega
  have ea2:qi 23 d0*n*(65536+Sp.pA (Sp.mvB d ch da))=65536*(qi 23 d0*n)+Sp.pA (Sp.mvB d ch da)*(qi 23 d0*n):=by
    rw[Int.mul_add,Int.mul_comm (qi 23 d0*n) 65536,Int.mul_comm (qi 23 d0*n) (Sp.pA _)]
  rw[wB]at ad
  refine⟨Sp.ctU_step ct.1 k0 (by omega) ad.1 (fun hx=>ad.2.2.1 ?_) ?_,Sp.ctU_step (a:= -Sp.pA (Sp.mvB d ch da)) ct.2 k0 (by omega) (by omega) (fun hx=> ?_) ?_⟩
  · have:=Sp.q_ge (b:=A+1) (f:=0) Q1 (Int.le_refl _) (z:=Sp.rsW (Sp.br (Sp.dg d))+(Sp.hoU d0 k-Sp.hoU d0 (k-1))-qi 18 d0) ?_
    · omega
    · refine Classical.byContradiction fun hn=> ?_
      have q:=Int.mul_le_mul_of_nonneg_left (show Sp.rsW (Sp.br (Sp.dg d))+(Sp.hoU d0 k-Sp.hoU d0 (k-1))-qi 18 d0≤A by
        refine Classical.byContradiction fun hm=>hn ?_
        have:=Int.mul_le_mul_of_nonneg_left (show A+1≤Sp.rsW (Sp.br (Sp.dg d))+(Sp.hoU d0 k-Sp.hoU d0 (k-1))-qi 18 d0 by omega) (show 0≤Sp.hoQ d0 by omega)
        omega) (show 0≤Sp.hoQ d0 by omega)
      omega
  · rw[ex,hE,hC,Int.mul_comm (Sp.pA _)]at*
    omega
  · have:=ad.2.2.2 ?_
    · omega
    · have z:=Sp.q_le (Q:=Sp.hoQ d0) (f:=0) (b:= -(A+1)) Q1 (Int.le_refl _) (by omega) (z:=Sp.rsW (Sp.br (Sp.dg d))+(Sp.hoU d0 k-Sp.hoU d0 (k-1))-qi 18 d0) (by
        refine Classical.byContradiction fun hn=> ?_
        have q:=Int.mul_le_mul_of_nonneg_left (show-A≤Sp.rsW (Sp.br (Sp.dg d))+(Sp.hoU d0 k-Sp.hoU d0 (k-1))-qi 18 d0 by
          refine Classical.byContradiction fun hm=>hn ?_
          have:=Int.mul_le_mul_of_nonneg_left (show Sp.rsW (Sp.br (Sp.dg d))+(Sp.hoU d0 k-Sp.hoU d0 (k-1))-qi 18 d0≤-(A+1) by omega) (show 0≤Sp.hoQ d0 by omega)
          omega) (show 0≤Sp.hoQ d0 by omega)
        rw[Int.mul_neg]at q
        rw[Int.mul_add,Int.mul_one]at hx
        omega)
      omega
  · rw[ex,hC,Int.neg_mul]
    omega
end Go

set_option linter.unusedVariables false
set_option linter.unusedSimpArgs false
set_option maxRecDepth 100000
set_option maxHeartbeats 4000000
namespace Go
open Go.Sx Go.Proofs
theorem Sp.plan_x {n e k j d g:Int} (h:Sp.planE n e k j d g=0):Sp.planB n e k j d g=max (Sp.planS n e k j) (d+Sp.up (Sp.planM k) g)+Sp.wob n e (k+Sp.planM k)+2*j+2∧Sp.planQ n e k j d g=Sp.up n e+Sp.wob n e (k+Sp.planM k)+2*j+3+Sp.planB n e k j d g∧Sp.decl n e k j=true∧Sp.planM k≤4096∧0≤d∧Sp.wob n e k≥0:=by
 by_cases o:Sp.decl n e k j=false∨d<0∨65536<d∨g<1∨4096<g
 · rw[Sp.plan_out o]at h; cases h
 have hd:Sp.decl n e k j=true:=by simpa using fun a=>o (.inl a)
 have i:=Sp.plan_in (n:=n) (e:=e) (k:=k) (j:=j) (d:=d) (g:=g) hd (by omega) (by omega) (by omega) (by omega)
 have hM:Sp.planM k≤4096:=by
  by_cases hM:4096<Sp.planM k
  · have:=i.1 hM; omega
  · omega
 have i2:=i.2.1 hM
 have s:Sp.planS n e k j≤65536:=by
  refine Classical.byContradiction fun q=> ?_
  have:=i2.1 (.inl (by omega)); omega
 have b0:=i2.2.2.2.1 s
 exact⟨if_neg (by omega),by rw[Sp.planQ,show Sp.demV 0 d g (Sp.planM k) n e k j=_ from if_neg (by omega)],hd,hM,by omega,i.2.2.2.2.1⟩
theorem Sp.scl_lo {m a b:Int} (b1:1≤b) (h:0≤m*a):Sp.scl m a b false*b≤m*a:=by
 have q:=Int.ediv_mul_le (m*a) (show b≠0 by omega)
 unfold Sp.scl
 split
 · omega
 · rw[if_neg (by simp)]
   have:=Int.mul_le_mul_of_nonneg_right (Int.min_le_left (m*a/b) 4611686018427387904) (show 0≤b by omega)
   omega
theorem Sp.scl_hi {m a b:Int} (b1:1≤b) (h:0≤m*a) (h1:m*a≤4611686018427387903):m*a≤Sp.scl m a b true*b:=by
 have q:=Int.mul_ediv_add_emod (m*a) b
 have l:=Int.emod_lt_of_pos (m*a) (show 0<b by omega)
 have z:=Int.emod_nonneg (m*a) (show b≠0 by omega)
 have d:=Int.ediv_le_self (b:=b) h
 rw[Int.mul_comm b]at q
 unfold Sp.scl
 rw[if_neg (by omega)]
 split
 · rw[Int.add_mul,Int.one_mul]; omega
 · rename_i c
   rw[Int.min_eq_left (by omega)]
   have:¬0<m*a % b:=fun x=>c ⟨rfl,x,by omega⟩
   omega
theorem Sp.kr_win {d:List C} {nn nd dr ji:Int} (h:Sp.krB (ql 14 d) nn nd dr ji (qi 13 d) (qi 16 d) (qi 16 d+30*qi 13 d)=true) (n1:nn≤768000) (p1:qi 13 d≤8192):
 (0≤dr∧dr≤4096∧0≤ji∧ji≤65536∧1≤nn∧1≤nd∧1≤qi 13 d∧0≤qi 16 d∧qi 16 d+30*qi 13 d≤1099511627776∧Sp.cval (ql 14 d)=true)∧∀i j,0≤i→i≤j→j≤30→(Sp.tau d j-Sp.tau d i-ji)*(nd*65536)≤(j-i)*qi 13 d*(nn*(65536+dr))∧(j-i)*qi 13 d*(nn*(65536-dr))≤(Sp.tau d j-Sp.tau d i+ji)*(nd*65536)∧Sp.tau d i≤Sp.tau d j:=by
 obtain⟨⟨o1,o2,o3,o4,o5,o6,_⟩,g⟩:=Sp.krB_of h
 have rv:=Sp.rvalid_of o2
 have e30:(qi 16 d+30*qi 13 d-qi 16 d)/qi 13 d=30:=by rw[show qi 16 d+30*qi 13 d-qi 16 d=30*qi 13 d by omega,Int.mul_ediv_cancel _ (by omega)]
 refine⟨⟨o3.1,o3.2,o4.1,o4.2,by omega,by omega,o5,o6.1,o6.2.2,o1⟩,fun i j i0 ij j1=> ?_⟩
 have tl:∀x,0≤x→x≤30→0≤x*qi 13 d∧x*qi 13 d≤30*qi 13 d:=fun x h0 h1=>⟨Int.mul_nonneg h0 (by omega),Int.mul_le_mul_of_nonneg_right h1 (by omega)⟩
 have ti:=tl i i0 (by omega)
 have tj:=tl j (by omega) j1
 have td:=tl (j-i) (by omega) (by omega)
 have mi:=Int.mul_le_mul_of_nonneg_right ij (show 0≤qi 13 d by omega)
 have mono:Sp.tau d i≤Sp.tau d j:=Sp.posn_mono o1 (by unfold Sp.duT; omega) (by unfold Sp.duT; omega) (by unfold Sp.duT; omega)
 have np:=mul_bd (x:=nn) (X:=768000) (y:=65536+dr) (Y:=69632) (by omega) n1 (by omega) (by omega)
 have nm:=mul_bd (x:=nn) (X:=768000) (y:=65536-dr) (Y:=65536) (by omega) n1 (by omega) (by omega)
 have a1:=mul_bd (x:=(j-i)*qi 13 d) (X:=245760) (y:=nn*(65536+dr)) (Y:=768000*69632) td.1 (by omega) np.1 np.2
 have a2:=mul_bd (x:=(j-i)*qi 13 d) (X:=245760) (y:=nn*(65536-dr)) (Y:=768000*65536) td.1 (by omega) nm.1 nm.2
 by_cases e:i=j
 · subst e
   have z:=Int.mul_nonneg o4.1 (show 0≤nd*65536 by omega)
   have z2:(Sp.tau d i-Sp.tau d i-ji)*(nd*65536)= -(ji*(nd*65536)):=by rw[Int.sub_self,Int.zero_sub,Int.neg_mul]
   have z3:(Sp.tau d i-Sp.tau d i+ji)*(nd*65536)=ji*(nd*65536):=by rw[Int.sub_self,Int.zero_add]
   rw[z2,z3,Int.sub_self,Int.zero_mul,Int.zero_mul,Int.zero_mul]
   omega
 · obtain⟨g1,g2⟩:=g j i i0 (by omega) (by omega)
   have l:=Sp.scl_lo (m:=(j-i)*qi 13 d) (a:=nn*(65536+dr)) (b:=nd*65536) (by omega) a1.1
   have u:=Sp.scl_hi (m:=(j-i)*qi 13 d) (a:=nn*(65536-dr)) (b:=nd*65536) (by omega) a2.1 (by omega)
   have t1:=Int.mul_le_mul_of_nonneg_right g1 (show 0≤nd*65536 by omega)
   have t2:=Int.mul_le_mul_of_nonneg_right g2 (show 0≤nd*65536 by omega)
   exact⟨Int.le_trans t1 l,Int.le_trans u t2,mono⟩
end Go

set_option linter.unusedVariables false
set_option linter.unusedSimpArgs false
set_option maxRecDepth 100000
set_option maxHeartbeats 4000000
namespace Go
open Go.Sx Go.Proofs
theorem Sp.ceiLe {m n a b:Int} (hb:0<b):Sp.cei m a b≤n↔m*a≤n*b:=by
 have: -n≤-m*a/b↔-n*b≤-m*a:=Int.le_ediv_iff_mul_le hb
 rw[Int.neg_mul,Int.neg_mul]at this
 unfold Sp.cei
 rw[Int.neg_mul]
 omega
theorem Sp.wob_q {n d k p Q:Int} (d1:1≤d) (Q0:0≤Q) (h:p*d=Q*n):2*(p*k)≤65536*(Q*Sp.wob n d k):=by
 have u:=(Sp.up_ge (a:=2*k*n) (b:=65536*d) (by omega)).1
 have m:=Int.mul_le_mul_of_nonneg_left u Q0
 have e1:Q*(2*k*n)=2*(p*k)*d:=by grind
 have e2:Q*(Sp.up (2*k*n) (65536*d)*(65536*d))=65536*(Q*Sp.wob n d k)*d:=by unfold Sp.wob; grind
 rw[e1,e2]at m
 exact Int.le_of_mul_le_mul_right m (by omega)
theorem Sp.up_q {n d p Q:Int} (d1:1≤d) (Q0:0≤Q) (h:p*d=Q*n):p≤Q*Sp.up n d∧Q*Sp.up n d≤p+Q:=by
 have u:=Sp.up_ge (a:=n) (b:=d) d1
 have m:=Int.mul_le_mul_of_nonneg_left u.1 Q0
 have m2:=Int.mul_le_mul_of_nonneg_left (show Sp.up n d*d≤n+d by omega) Q0
 have e2:Q*(Sp.up n d*d)=Q*Sp.up n d*d:=by grind
 have e3:Q*(n+d)=(p+Q)*d:=by grind
 rw[e2,←h]at m
 rw[e2,e3]at m2
 exact⟨Int.le_of_mul_le_mul_right m (by omega),Int.le_of_mul_le_mul_right m2 (by omega)⟩
theorem Sp.hoX {U:List C} (pd:Sp.pd U) (h2:¬qi 2 U=1):Sp.nN U*qi 13 U*Sp.iD U=Sp.nD U*Sp.iN U:=by
 have nm:=Sp.nm_b pd
 have b:=Sp.pd_b pd
 have iN:Sp.iN U=Sp.mkV (qi 13 U*qi 9 U) (qi 12 U) (qi 13 U*qi 9 U):=if_neg h2
 have iD:Sp.iD U=Sp.mkV (qi 13 U*qi 9 U) (qi 12 U) (qi 12 U):=if_neg h2
 have pm:=mul_bd (x:=qi 13 U) (X:=8192) (y:=qi 9 U) (Y:=768000) (by omega) (by omega) (by omega) (by omega)
 have pm1:=Int.mul_le_mul_of_nonneg_left (show 1≤qi 9 U by omega) (show 0≤qi 13 U by omega)
 have mk:=Sp.mk_of (a:=qi 13 U*qi 9 U) (b:=qi 12 U) (by omega) (by omega) (by omega) (by omega)
 rw[←iN,←iD]at mk
 have g:=Int.mul_pos (show 0<Sp.gcd (qi 9 U) (qi 12 U) by omega) (show 0<Sp.gcd (qi 13 U*qi 9 U) (qi 12 U) by omega)
 refine Int.eq_of_mul_eq_mul_right (show Sp.gcd (qi 9 U) (qi 12 U)*Sp.gcd (qi 13 U*qi 9 U) (qi 12 U)≠0 by omega) ?_
 have a1:=nm.2.2.1
 have a2:=nm.2.2.2.1
 have a3:=mk.2.2.1
 have a4:=mk.2.2.2.1
 generalize Sp.gcd (qi 9 U) (qi 12 U)=g1 at*
 generalize Sp.gcd (qi 13 U*qi 9 U) (qi 12 U)=g2 at*
 have l:Sp.nN U*qi 13 U*Sp.iD U*(g1*g2)=(Sp.nN U*g1)*qi 13 U*(Sp.iD U*g2):=by grind
 have r:Sp.nD U*Sp.iN U*(g1*g2)=(Sp.nD U*g1)*(Sp.iN U*g2):=by grind
 rw[l,r,a1,a2,a3,a4]; grind
theorem Sp.ho_0 {U D:List C} {t:Int} (pd:Sp.pd U) (hE:Sp.oE U=0) (hB:Sp.oBE U=0) (hD:D=Sp.run (Sp.brd U (Sp.oBV U)) t) (hv:Sp.dvV D=true)
    (hk:Sp.krB (ql 14 D) (Sp.nN D) (Sp.nD D) (qi 5 D) (qi 6 D) (qi 13 D) (qi 16 D) (qi 16 D+30*qi 13 D)=true):Sp.hoJ D 0 D:=by
  have bn:Sp.oBV U=_:=(Sp.bn_ok hB).1
  have bv:=(Sp.bn_v hB).2
  have x:∀v,Sp.oX U v=v:=fun v=>if_pos hE
  rw[x,x,x,x,x]at bn bv
  have cl:qi 2 D=qi 2 U∧qi 5 D=qi 5 U∧qi 6 D=qi 6 U∧qi 13 D=qi 13 U∧qb 15 D=true∧qi 17 D=Sp.oP U∧qi 18 D=Sp.oQ U∧qi 19 D=iQuo (Sp.oW U) 4∧qi 20 D=16∧qi 21 D=Sp.planM (qi 5 U)∧qi 23 D=Sp.bN U∧qi 24 D=Sp.bD U∧qi 26 D=0∧qi 27 D=0∧qi 29 D=0∧qi 30 D=0∧Sp.nN D=Sp.nN U∧Sp.nD D=Sp.nD U∧Sp.rsW (Sp.br (Sp.dg D))=max 0 (Sp.oQ U-Sp.oW U):=by
    rw[hD,bn]
    exact⟨rfl,rfl,rfl,rfl,rfl,rfl,rfl,rfl,rfl,rfl,rfl,rfl,rfl,rfl,rfl,rfl,rfl,rfl,bv⟩
  clear bn bv hB hD
  obtain⟨c2,c5,c6,c13,c15,c17,c18,c19,c20,c21,c23,c24,c26,c27,c29,c30,cN,cD,cF⟩:=cl
  have nm:=Sp.nm_b pd
  have bb:=Sp.b_b pd
  have rb:=Sp.rvalid_of bb.1
  have ib:=(Sp.in_b pd).1
  have ow:=Sp.oW_b pd
  have b:=Sp.pd_b pd
  have px:=Sp.plan_x hE
  have pb:=Sp.plan_b hE
  have oQ:Sp.oQ U=Sp.planQ (Sp.iN U) (Sp.iD U) (qi 5 U) (Sp.jt U) (iQuo (Sp.oW U) 4) 16:=rfl
  have oP:Sp.oP U=Sp.oQ U+Sp.planB (Sp.iN U) (Sp.iD U) (qi 5 U) (Sp.jt U) (iQuo (Sp.oW U) 4) 16:=rfl
  have oW:Sp.oW U=Sp.up (Sp.iN U) (Sp.iD U):=by
    rw[←ow.1]; exact Int.tdiv_eq_ediv_of_nonneg (by show 0≤Sp.iN U+Sp.iD U-1; omega)
  obtain⟨x1,x2,x3,x4,x5,x6⟩:=px
  rw[←oQ]at x2 pb
  have dd:=Sp.decl_of x3
  have mb:=Sp.planM_bd (k:=qi 5 U) (by omega) (by omega)
  have w2:=Sp.wob_bd (n:=Sp.iN U) (d:=Sp.iD U) (k:=qi 5 U+Sp.planM (qi 5 U)) (by omega) (by omega) (by omega) (by omega) (by omega) (by omega)
  have u16:=Sp.up_bd (a:=Sp.planM (qi 5 U)) (b:=16) (by omega) (by omega)
  have pS:Sp.planS (Sp.iN U) (Sp.iD U) (qi 5 U) (Sp.jt U)=Sp.wob (Sp.iN U) (Sp.iD U) (qi 5 U)+Sp.jt U+1:=rfl
  have Q1:1≤Sp.hoQ D:=by unfold Sp.hoQ; rw[c24]; omega
  obtain⟨kb,kw⟩:=Sp.kr_win hk (by rw[cN]; omega) (by rw[c13]; omega)
  rw[cN,cD,c5,c6,c13]at kb kw
  have main:∀p dl et,p*Sp.iD U=Sp.hoQ D*Sp.iN U→65536*dl=p*qi 5 U→0≤p→0≤et→1≤Sp.jt U→et≤Sp.hoQ D*(Sp.jt U-1)→Sp.Win p dl et 29 (Sp.hoE D) (Sp.hoC D)→(Sp.hoU D 0-Sp.hoU D (-1)=Sp.oW U∨(Sp.hoQ D*(Sp.hoU D 0-Sp.hoU D (-1))≤p+dl+et∧p-dl-et≤Sp.hoQ D*(Sp.hoU D 0-Sp.hoU D (-1))))→Sp.hoJ D 0 D:=fun p dl et hp hd p0 e0 j1 eY win hV=>by
    have wq:=Sp.wob_q (k:=qi 5 U+Sp.planM (qi 5 U)) (by omega) (by omega) hp
    have ws:=Sp.wob_q (k:=qi 5 U) (by omega) (by omega) hp
    have uq:=Sp.up_q (by omega) (show 0≤Sp.hoQ D by omega) hp
    have A0:Sp.planS (Sp.iN U) (Sp.iD U) (qi 5 U) (Sp.jt U)≤max (Sp.planS (Sp.iN U) (Sp.iD U) (qi 5 U) (Sp.jt U)) (iQuo (Sp.oW U) 4+Sp.up (Sp.planM (qi 5 U)) 16):=Int.le_max_left _ _
    have A1:iQuo (Sp.oW U) 4+Sp.up (Sp.planM (qi 5 U)) 16≤max (Sp.planS (Sp.iN U) (Sp.iD U) (qi 5 U) (Sp.jt U)) (iQuo (Sp.oW U) 4+Sp.up (Sp.planM (qi 5 U)) 16):=Int.le_max_right _ _
    generalize max (Sp.planS (Sp.iN U) (Sp.iD U) (qi 5 U) (Sp.jt U)) (iQuo (Sp.oW U) 4+Sp.up (Sp.planM (qi 5 U)) 16)=A at*
    have S:Sp.HoS D A (Sp.wob (Sp.iN U) (Sp.iD U) (qi 5 U+Sp.planM (qi 5 U))) (Sp.jt U) p dl et:=
      ⟨win,by rw[c24]; omega,by rw[c23]; omega,by rw[c21]; omega,by rw[c21]; omega,by rw[c5]; omega,p0,e0,eY,by rw[c5]; exact hd,by rw[c5,c21]; exact mb.2.2,by rw[c5,c21]; exact wq,w2.1,j1,by omega,⟨_,uq.1,by rw[c18]; omega⟩,by rw[c17,c18]; omega,by rw[c18,c19,c21,oQ]; exact pb.1,by rw[c19,c21]; exact A1⟩
    refine⟨A,_,_,p,dl,et,S,⟨by omega,by omega⟩,⟨hv,c15⟩,⟨rfl,rfl,rfl,rfl,rfl,rfl,rfl,rfl,c20,rfl,rfl,rfl⟩,⟨c29,c30,by omega,by omega⟩,⟨by omega,by omega⟩,fun _=> ?_⟩
    have eV:Sp.hoV D D 0=Sp.hoQ D*(Sp.hoU D 0-Sp.hoU D (-1)-Sp.oW U):=by
      unfold Sp.hoV
      rw[cF,c18,c27,Int.sub_zero]
      congr 1
      have:=Sp.up_bd (a:=Sp.iN U) (b:=Sp.iD U) (by omega) (by omega)
      rw[show(0:Int)-1= -1 by omega]
      omega
    have QA:Sp.hoQ D*(Sp.wob (Sp.iN U) (Sp.iD U) (qi 5 U)+(Sp.jt U-1))≤Sp.hoQ D*A:=Int.mul_le_mul_of_nonneg_left (by omega) (by omega)
    have Q0:0≤Sp.hoQ D*Sp.wob (Sp.iN U) (Sp.iD U) (qi 5 U):=Int.mul_nonneg (by omega) (by omega)
    rw[Int.mul_add]at QA
    rw[eV,Int.mul_sub]
    refine⟨.inl ?_,.inl ?_⟩
    · rcases hV with hV|hV
      · rw[hV]; omega
      · rw[oW]at*; omega
    · rw[Int.mul_add,Int.mul_one]
      rcases hV with hV|hV
      · rw[hV]; omega
      · rw[oW]at*; omega
  have rd:Sp.hoQ D=Sp.bD U*65536:=by unfold Sp.hoQ; rw[c24]
  by_cases h2:qi 2 U=1
  · --playback
    have eN:Sp.bN U=Sp.nD U:=bb.2.2.2.1.trans (if_pos h2)
    have eD:Sp.bD U=Sp.nN U:=bb.2.2.2.2.trans (if_pos h2)
    have iN:Sp.iN U=qi 13 U:=if_pos h2
    have iD:Sp.iD U=1:=if_pos h2
    have j:Sp.jt U=Sp.ceiV (qi 6 U) (Sp.bN U) (Sp.bD U)+1:=if_pos h2
    have ch:Sp.chk (qi 6 U) (Sp.bN U) (Sp.bD U)=0:=((Sp.chk_c (qi 6 U) (Sp.bN U) (Sp.bD U)).2 bb.1).2 (by omega)
    have jb:=mul_bd (x:=qi 6 U) (X:=65536) (y:=Sp.bN U) (Y:=768000) (by omega) (by omega) (by omega) (by omega)
    have cu:Sp.cei (qi 6 U) (Sp.bN U) (Sp.bD U)≤qi 6 U*Sp.bN U:=(Sp.ceiLe (by omega)).2 (by
      have:=Int.mul_le_mul_of_nonneg_left (show 1≤Sp.bD U by omega) jb.1
      omega)
    have cl:0≤Sp.cei (qi 6 U) (Sp.bN U) (Sp.bD U):=by
      refine Classical.byContradiction fun q=> ?_
      have:=(Sp.ceiLe (m:=qi 6 U) (n:= -1) (a:=Sp.bN U) (b:=Sp.bD U) (by omega)).1 (by omega)
      omega
    have ce:=((Sp.ceiI ch).1 (by omega)).2
    have cj:=(Sp.ceiLe (m:=qi 6 U) (a:=Sp.bN U) (b:=Sp.bD U) (by omega)).1 (Int.le_refl _)
    rw[←ce,eN,eD]at cj
    rw[eD]at rd
    have hU:∀k,Sp.hoU D k=qi 13 U*(k+1):=fun k=>by unfold Sp.hoU; rw[c2,c13,if_pos h2]
    have hW:∀k,Sp.hoW D k=Sp.tau D k:=fun k=>by unfold Sp.hoW; rw[c2,if_pos h2]
    have hC:∀k,Sp.hoC D k=Sp.nD U*Sp.tau D k:=fun k=>by unfold Sp.hoC; rw[hW,c23,eN]
    have p0:0≤Sp.nN U*65536*qi 13 U:=Int.mul_nonneg (by omega) (by omega)
    have jn:0≤qi 6 U*Sp.nD U:=by rw[←eN]; exact jb.1
    refine main (Sp.nN U*65536*qi 13 U) (Sp.nN U*qi 13 U*qi 5 U) (65536*(qi 6 U*Sp.nD U)) (by rw[rd,iN,iD]; grind) (by grind) p0 (by omega) (by rw[j,ce]; omega) ?_ ?_ (.inl ?_)
    · rw[rd,j,eN,eD,show Sp.ceiV (qi 6 U) (Sp.nD U) (Sp.nN U)+1-1=Sp.ceiV (qi 6 U) (Sp.nD U) (Sp.nN U) by omega,show Sp.nN U*65536*Sp.ceiV (qi 6 U) (Sp.nD U) (Sp.nN U)=65536*(Sp.ceiV (qi 6 U) (Sp.nD U) (Sp.nN U)*Sp.nN U) by grind]
      omega
    · have wc:∀i j,0≤i→i≤j→j≤29+1→65536*(Sp.hoC D j-Sp.hoC D i)≤(j-i)*(Sp.nN U*65536*qi 13 U+Sp.nN U*qi 13 U*qi 5 U)+65536*(qi 6 U*Sp.nD U)∧(j-i)*(Sp.nN U*65536*qi 13 U-Sp.nN U*qi 13 U*qi 5 U)-65536*(qi 6 U*Sp.nD U)≤65536*(Sp.hoC D j-Sp.hoC D i)∧Sp.hoC D i≤Sp.hoC D j:=fun i j i0 ij j1=>by
        obtain⟨a,b,c⟩:=kw i j i0 ij (by omega)
        rw[hC,hC]
        have e1:(Sp.tau D j-Sp.tau D i-qi 6 U)*(Sp.nD U*65536)=65536*(Sp.nD U*Sp.tau D j-Sp.nD U*Sp.tau D i)-65536*(qi 6 U*Sp.nD U):=by grind
        have e2:(Sp.tau D j-Sp.tau D i+qi 6 U)*(Sp.nD U*65536)=65536*(Sp.nD U*Sp.tau D j-Sp.nD U*Sp.tau D i)+65536*(qi 6 U*Sp.nD U):=by grind
        have e3:(j-i)*qi 13 U*(Sp.nN U*(65536+qi 5 U))=(j-i)*(Sp.nN U*65536*qi 13 U+Sp.nN U*qi 13 U*qi 5 U):=by grind
        have e4:(j-i)*qi 13 U*(Sp.nN U*(65536-qi 5 U))=(j-i)*(Sp.nN U*65536*qi 13 U-Sp.nN U*qi 13 U*qi 5 U):=by grind
        have m:=Int.mul_le_mul_of_nonneg_left c (show 0≤Sp.nD U by omega)
        rw[e1,e3]at a
        rw[e2,e4]at b
        exact⟨by omega,by omega,m⟩
      refine⟨fun i j i0 ij j1=> ?_,wc⟩
      obtain⟨a,b,c⟩:=wc i j i0 ij (by omega)
      have e5:Sp.hoE D j-Sp.hoE D i=(j-i)*(Sp.nN U*65536*qi 13 U)-65536*(Sp.hoC D j-Sp.hoC D i):=by unfold Sp.hoE; rw[hU,hU,rd]; grind
      rw[e5]
      rw[Int.mul_add]at a
      rw[Int.mul_sub]at b
      omega
    · rw[hU,hU,oW,iN,iD]
      unfold Sp.up
      omega
  · have eN:Sp.bN U=Sp.nN U:=bb.2.2.2.1.trans (if_neg h2)
    have eD:Sp.bD U=Sp.nD U:=bb.2.2.2.2.trans (if_neg h2)
    have j:Sp.jt U=qi 6 U+1:=if_neg h2
    rw[eD]at rd
    have cross:=Sp.hoX pd h2
    have hU:∀k,Sp.hoU D k=Sp.tau D (k+1):=fun k=>by unfold Sp.hoU; rw[c2,if_neg h2]
    have hW:∀k,Sp.hoW D k=qi 13 U*k:=fun k=>by unfold Sp.hoW; rw[c2,c13,if_neg h2]
    have hC:∀k,Sp.hoC D k=Sp.nN U*(qi 13 U*k):=fun k=>by unfold Sp.hoC; rw[hW,c23,eN]
    have p0:0≤Sp.nN U*65536*qi 13 U:=Int.mul_nonneg (by omega) (by omega)
    have d0:0≤Sp.nN U*qi 13 U*qi 5 U:=Int.mul_nonneg (Int.mul_nonneg (by omega) (by omega)) (by omega)
    have e0:0≤Sp.nD U*65536*qi 6 U:=Int.mul_nonneg (by omega) (by omega)
    have qe:∀i j,0≤i→i≤j→j≤30→Sp.nD U*65536*(Sp.tau D j-Sp.tau D i)≤(j-i)*(Sp.nN U*65536*qi 13 U)+(j-i)*(Sp.nN U*qi 13 U*qi 5 U)+Sp.nD U*65536*qi 6 U∧(j-i)*(Sp.nN U*65536*qi 13 U)- (j-i)*(Sp.nN U*qi 13 U*qi 5 U)-Sp.nD U*65536*qi 6 U≤Sp.nD U*65536*(Sp.tau D j-Sp.tau D i):=fun i j i0 ij j1=>by
      obtain⟨a,b,c⟩:=kw i j i0 ij j1
      have e1:(Sp.tau D j-Sp.tau D i-qi 6 U)*(Sp.nD U*65536)=Sp.nD U*65536*(Sp.tau D j-Sp.tau D i)-Sp.nD U*65536*qi 6 U:=by grind
      have e2:(Sp.tau D j-Sp.tau D i+qi 6 U)*(Sp.nD U*65536)=Sp.nD U*65536*(Sp.tau D j-Sp.tau D i)+Sp.nD U*65536*qi 6 U:=by grind
      have e3:(j-i)*qi 13 U*(Sp.nN U*(65536+qi 5 U))=(j-i)*(Sp.nN U*65536*qi 13 U)+(j-i)*(Sp.nN U*qi 13 U*qi 5 U):=by grind
      have e4:(j-i)*qi 13 U*(Sp.nN U*(65536-qi 5 U))=(j-i)*(Sp.nN U*65536*qi 13 U)- (j-i)*(Sp.nN U*qi 13 U*qi 5 U):=by grind
      rw[e1,e3]at a
      rw[e2,e4]at b
      exact⟨by omega,by omega⟩
    refine main (Sp.nN U*65536*qi 13 U) (Sp.nN U*qi 13 U*qi 5 U) (Sp.nD U*65536*qi 6 U) (by rw[rd]; grind) (by grind) p0 e0 (by omega) (by rw[rd,j,show qi 6 U+1-1=qi 6 U by omega]; exact Int.le_refl _) ⟨fun i j i0 ij j1=> ?_,fun i j i0 ij j1=> ?_⟩ (.inr ?_)
    · have q:=qe (i+1) (j+1) (by omega) (by omega) (by omega)
      rw[show j+1- (i+1)=j-i by omega]at q
      have e5:Sp.hoE D j-Sp.hoE D i=Sp.nD U*65536*(Sp.tau D (j+1)-Sp.tau D (i+1))- (j-i)*(Sp.nN U*65536*qi 13 U):=by unfold Sp.hoE; rw[hU,hU,hC,hC,rd]; grind
      rw[e5]
      omega
    · have e6:65536*(Sp.hoC D j-Sp.hoC D i)=(j-i)*(Sp.nN U*65536*qi 13 U):=by rw[hC,hC]; grind
      have n1:=Int.mul_nonneg (show 0≤j-i by omega) d0
      have n2:=Int.mul_nonneg (show 0≤j-i by omega) p0
      rw[e6,Int.mul_add,Int.mul_sub]
      exact⟨by omega,by omega,by omega⟩
    · rw[hU,hU,rd]
      have q:=qe 0 1 (by omega) (by omega) (by omega)
      rw[show(1:Int)-0=1 by omega,Int.one_mul,Int.one_mul]at q
      show Sp.nD U*65536*(Sp.tau D (0+1)-Sp.tau D (-1+1))≤_∧_
      rw[show(0:Int)+1=1 by omega,show(-1:Int)+1=0 by omega]
      omega
end Go

set_option linter.unusedVariables false
set_option linter.unusedSimpArgs false
set_option maxRecDepth 100000
set_option maxHeartbeats 4000000
namespace Go
open Go.Sx Go.Proofs
theorem Sp.run_rc {d:List C} {ch n:Int} {da:List (List C)} {a b:Int} (hr:qb 15 d=true) (hc:Sp.ckE d 2 ch da a b=0) (hw:Sp.ckV d 2 ch da a b=Sp.duV d a b) (hl:(da.length:Int)/ch=Sp.duV d a b) (c0:0≤ch) (n0:0≤n) (n1:n≤65536) (hm:Sp.mvE d ch da n=0):
 Sp.rcE d ch da n a b=0∧Sp.rcC d ch da n a b=Sp.mvC d ch da n∧Sp.rcD d ch da n a b=Sp.mvD d ch da n∧Sp.rcL d ch da n a b=Sp.mvL d ch da n∧Sp.rcM d ch da n a b=Sp.mvM d ch da n∧Sp.rcV d ch da n a b=Sp.mvV d ch da n:=by
 have q:iQuo (iLen da) ch=(da.length:Int)/ch:=Int.tdiv_eq_ediv_of_nonneg (by simp only[iLen]; omega)
 have e:Sp.rcE d ch da n a b=0:=by
  unfold Sp.rcE
  rw[if_neg (by omega),if_neg (fun x=>x.2 (by omega)),if_neg (by omega),hr]
  exact hm
 have ne:¬Sp.rcE d ch da n a b≠0:=by omega
 unfold Sp.rcC Sp.rcD Sp.rcL Sp.rcM Sp.rcV
 rw[if_neg ne,if_neg ne,if_neg ne,if_neg ne,if_neg ne,hr]
 exact⟨e,rfl,rfl,rfl,rfl,rfl⟩
theorem Sp.ho_in {d0 d:List C} {k:Int} (h:Sp.hoJ d0 k d):(0≤k∧k≤30)∧(Sp.dvV d=true∧qb 15 d=true)∧(qi 2 d=qi 2 d0∧qi 13 d=qi 13 d0∧qi 16 d=qi 16 d0∧ql 14 d=ql 14 d0∧(ql 10 d).length=(ql 10 d0).length)∧qi 29 d=0∧qi 30 d=0∧qi 17 d=qi 17 d0∧0≤qi 26 d∧qi 26 d≤65536*k:=by
 obtain⟨A,w,j,p,dl,et,_,h1,h2,⟨a,b,c,e,f,g,_⟩,h4,_⟩:=h
 exact⟨h1,h2,⟨a,b,c,e,f⟩,h4.1,h4.2.1,g,h4.2.2⟩
theorem Sp.ho_due {d0 d:List C} {k:Int} (h:Sp.hoJ d0 k d) (hk:k≤29) (p1:qi 13 d0≤63) (s1:qi 16 d0≤1000):Sp.duE d (qi 16 d+k*qi 13 d) (qi 16 d+k*qi 13 d+qi 13 d)=0∧Sp.duV d (qi 16 d+k*qi 13 d) (qi 16 d+k*qi 13 d+qi 13 d)=Sp.tau d0 (k+1)-Sp.tau d0 k∧0≤Sp.tau d0 (k+1)-Sp.tau d0 k∧Sp.tau d0 (k+1)-Sp.tau d0 k≤65536∧Sp.btV (ql 14 d0) (Sp.duT d0 k) (Sp.duT d0 k+qi 13 d0)=Sp.tau d0 (k+1)-Sp.tau d0 k:=by
 obtain⟨⟨k0,_⟩,⟨hv,hr⟩,⟨_,g13,g16,g14,_⟩,_⟩:=Sp.ho_in h
 have v:=Sp.dvV_of hv
 have b:=Sp.dv_b hv
 have m:=mul_bd (x:=k) (X:=30) (y:=qi 13 d) (Y:=63) k0 (by omega) (by omega) (by omega)
 have du:=Sp.du_q (a:=qi 16 d+k*qi 13 d) (p:=qi 13 d) hv hr (by omega) (by omega) (by omega) (by omega)
 have e:Sp.posn (ql 14 d) (qi 16 d+k*qi 13 d+qi 13 d)-Sp.posn (ql 14 d) (qi 16 d+k*qi 13 d)=Sp.tau d0 (k+1)-Sp.tau d0 k:=by
  unfold Sp.tau Sp.duT
  rw[g14,g16,g13,Int.add_mul,Int.one_mul,Int.add_assoc]
 have eb:Sp.btV (ql 14 d0) (Sp.duT d0 k) (Sp.duT d0 k+qi 13 d0)=Sp.tau d0 (k+1)-Sp.tau d0 k:=by
  rw[←e]
  unfold Sp.duT
  rw[←g14,←g16,←g13]
  exact if_pos (by unfold Sp.btE; rw[if_neg (by simp[v.1.2.2.2]),if_neg (by omega)])
 rw[e]at du
 obtain⟨d1,d2,d3,d4⟩:=du
 exact⟨d1,d2,by omega,by omega,eb⟩
theorem Sp.ho_py {d0 d:List C} {k ch s:Int} (h:Sp.hoJ d0 k d) (hk:k≤29) (p1:qi 13 d0≤63) (s1:qi 16 d0≤1000) (h2:qi 2 d0=1) (hc:ch=((ql 10 d0).length:Int)):
 Sp.pyE d ch (Sp.wv s ch (qi 13 d)) (qi 16 d+k*qi 13 d) (qi 16 d+k*qi 13 d+qi 13 d)=0∧Sp.pyL d ch (Sp.wv s ch (qi 13 d)) (qi 16 d+k*qi 13 d) (qi 16 d+k*qi 13 d+qi 13 d)=0∧Sp.pyM d ch (Sp.wv s ch (qi 13 d)) (qi 16 d+k*qi 13 d) (qi 16 d+k*qi 13 d+qi 13 d)=0∧
 Sp.frm (Sp.pyC d ch (Sp.wv s ch (qi 13 d)) (qi 16 d+k*qi 13 d) (qi 16 d+k*qi 13 d+qi 13 d)) (Sp.pyD d ch (Sp.wv s ch (qi 13 d)) (qi 16 d+k*qi 13 d) (qi 16 d+k*qi 13 d+qi 13 d))=Sp.tau d0 (k+1)-Sp.tau d0 k∧
 Sp.hoJ d0 (k+1) (Sp.pyV d ch (Sp.wv s ch (qi 13 d)) (qi 16 d+k*qi 13 d) (qi 16 d+k*qi 13 d+qi 13 d))∧qi 26 (Sp.pyV d ch (Sp.wv s ch (qi 13 d)) (qi 16 d+k*qi 13 d) (qi 16 d+k*qi 13 d+qi 13 d))+Sp.rsW (Sp.br (Sp.dg (Sp.pyV d ch (Sp.wv s ch (qi 13 d)) (qi 16 d+k*qi 13 d) (qi 16 d+k*qi 13 d+qi 13 d))))=qi 26 d+Sp.rsW (Sp.br (Sp.dg d))+(Sp.hoU d0 k-Sp.hoU d0 (k-1)):=by
 obtain⟨⟨k0,_⟩,⟨hv,hr⟩,⟨g2,g13,g16,g14,g10⟩,_⟩:=Sp.ho_in h
 have b:=Sp.dv_b hv
 have oc:=Sp.ofH_ch (Sp.dvV_of hv).1.2.1
 obtain⟨u1,u2,u3,u4,_⟩:=Sp.ho_due h hk p1 s1
 have hc':ch=((ql 10 d).length:Int):=by omega
 have w:=Sp.wv_ok (s:=s) (ch:=ch) (n:=qi 13 d) (by omega) (by omega) (by omega) (by omega)
 obtain⟨c1,c2⟩:=Sp.run_ck (k:=1) hv w.1 (g2.trans h2) hc' u1
 obtain⟨y1,y2,y3,y4,y5,y6⟩:=Sp.run_py hr c1 c2
 have U:∀x,Sp.hoU d0 x=qi 13 d0*(x+1):=fun x=>if_pos h2
 have W:∀x,Sp.hoW d0 x=Sp.tau d0 x:=fun x=>if_pos h2
 rw[u2]at y1 y2 y3 y4 y5 y6
 have st:=Sp.ho_step h hk w.1 hc' (by rw[w.2.2,U,U,Int.sub_add_cancel,Int.mul_add]; omega) (n:=Sp.tau d0 (k+1)-Sp.tau d0 k) (by rw[W,W]) u3 u4
 rw[y1,y2,y3,y4,y5,y6,st.2.1]
 exact⟨st.1,st.2.2.1,st.2.2.2.1,st.2.2.2.2.1,st.2.2.2.2.2⟩
theorem Sp.ho_rc {d0 d:List C} {k ch s n:Int} (h:Sp.hoJ d0 k d) (hk:k≤29) (p1:qi 13 d0≤63) (s1:qi 16 d0≤1000) (h2:qi 2 d0=2) (hc:ch=((ql 10 d0).length:Int)) (hn:n=Sp.tau d0 (k+1)-Sp.tau d0 k):
 Sp.rcE d ch (Sp.wv s ch n) (qi 13 d) (qi 16 d+k*qi 13 d) (qi 16 d+k*qi 13 d+qi 13 d)=0∧Sp.rcL d ch (Sp.wv s ch n) (qi 13 d) (qi 16 d+k*qi 13 d) (qi 16 d+k*qi 13 d+qi 13 d)=0∧Sp.rcM d ch (Sp.wv s ch n) (qi 13 d) (qi 16 d+k*qi 13 d) (qi 16 d+k*qi 13 d+qi 13 d)=0∧
 Sp.frm (Sp.rcC d ch (Sp.wv s ch n) (qi 13 d) (qi 16 d+k*qi 13 d) (qi 16 d+k*qi 13 d+qi 13 d)) (Sp.rcD d ch (Sp.wv s ch n) (qi 13 d) (qi 16 d+k*qi 13 d) (qi 16 d+k*qi 13 d+qi 13 d))=qi 13 d∧
 Sp.hoJ d0 (k+1) (Sp.rcV d ch (Sp.wv s ch n) (qi 13 d) (qi 16 d+k*qi 13 d) (qi 16 d+k*qi 13 d+qi 13 d))∧qi 26 (Sp.rcV d ch (Sp.wv s ch n) (qi 13 d) (qi 16 d+k*qi 13 d) (qi 16 d+k*qi 13 d+qi 13 d))+Sp.rsW (Sp.br (Sp.dg (Sp.rcV d ch (Sp.wv s ch n) (qi 13 d) (qi 16 d+k*qi 13 d) (qi 16 d+k*qi 13 d+qi 13 d))))=qi 26 d+Sp.rsW (Sp.br (Sp.dg d))+(Sp.hoU d0 k-Sp.hoU d0 (k-1)):=by
 obtain⟨⟨k0,_⟩,⟨hv,hr⟩,⟨g2,g13,g16,g14,g10⟩,_⟩:=Sp.ho_in h
 have b:=Sp.dv_b hv
 have oc:=Sp.ofH_ch (Sp.dvV_of hv).1.2.1
 obtain⟨u1,u2,u3,u4,_⟩:=Sp.ho_due h hk p1 s1
 have hc':ch=((ql 10 d).length:Int):=by omega
 have w:=Sp.wv_ok (s:=s) (ch:=ch) (n:=n) (by omega) (by omega) (by omega) (by omega)
 obtain⟨c1,c2⟩:=Sp.run_ck (k:=2) hv w.1 (g2.trans h2) hc' u1
 have n2:¬qi 2 d0=1:=by omega
 have U:∀x,Sp.hoU d0 x=Sp.tau d0 (x+1):=fun x=>if_neg n2
 have W:∀x,Sp.hoW d0 x=qi 13 d0*x:=fun x=>if_neg n2
 have st:=Sp.ho_step h hk w.1 hc' (by rw[w.2.2,U,U,Int.sub_add_cancel]; exact hn) (n:=qi 13 d) (by rw[W,W,Int.mul_add]; omega) (by omega) (by omega)
 obtain⟨y1,y2,y3,y4,y5,y6⟩:=Sp.run_rc hr c1 c2 (by rw[w.2.2,u2]; exact hn) (by omega) (by omega) (by omega) st.1
 rw[y1,y2,y3,y4,y5,y6,st.2.1]
 exact⟨rfl,st.2.2.1,st.2.2.2.1,st.2.2.2.2.1,st.2.2.2.2.2⟩
theorem Sp.ho_md {l:List (List C)} {r:Int} (h:qb 15 (Sp.mdV l r)=true) (hk:Sp.krB (ql 14 (Sp.mdV l r)) (Sp.nN (Sp.mdV l r)) (Sp.nD (Sp.mdV l r)) (qi 5 (Sp.mdV l r)) (qi 6 (Sp.mdV l r)) (qi 13 (Sp.mdV l r)) (qi 16 (Sp.mdV l r)) (qi 16 (Sp.mdV l r)+30*qi 13 (Sp.mdV l r))=true):Sp.hoJ (Sp.mdV l r) 0 (Sp.mdV l r):=by
 obtain⟨e,m,hv⟩:=Sp.md_run h
 have v:=Sp.op_v e
 have o:Sp.mdO l r=_:=v.2.2.2.1
 exact Sp.ho_0 v.1 v.2.1 v.2.2.1 (by rw[←o]; exact m) hv hk
end Go
namespace Go.Sx
def A6 (s:List (List C)) (dr:Int):FuncId→Nat→LoopAnn:=fun _ _=> .on (fun sv0=>match sv0.tmps.getD 5 .undef with| .ref kk _=> .inv (Int×List C) (fun z=>Sp.hoJ (Sp.rsD s dr) z.1 z.2) (fun z=>[(84,.int .i64 z.1)]) (fun z=>[(kk,.box (ofCs hV z.2) 48)]) [kk] [0,1,4,5,6,8,9,10,11,12,13,14,15,16,17,18,19,20,21,22,24,44,75,82,83,84,85,103,134,168] (fun z=>(30-z.1).toNat)|_=> .unroll 0)
def m6_1 (s:List (List C)) (dr:Int) (x:Int×List C):List (List C):=(Sp.wv x.1 (iLen (ql 10 (Sp.rsD s dr))) (qi 13 x.2))
def m6_3 (s:List (List C)) (dr:Int) (x:Int×List C):Int:=(Sp.frm (Sp.pyC x.2 (iLen (ql 10 (Sp.rsD s dr))) (m6_1 s dr x) (iAdd (qi 16 x.2) (iMul x.1 (qi 13 x.2))) (iAdd (iAdd (qi 16 x.2) (iMul x.1 (qi 13 x.2))) (qi 13 x.2))) (Sp.pyD x.2 (iLen (ql 10 (Sp.rsD s dr))) (m6_1 s dr x) (iAdd (qi 16 x.2) (iMul x.1 (qi 13 x.2))) (iAdd (iAdd (qi 16 x.2) (iMul x.1 (qi 13 x.2))) (qi 13 x.2))))
def m6_4 (s:List (List C)) (dr:Int):Int:=(Sp.mkV (qi 9 (Sp.rsD s dr)) (qi 12 (Sp.rsD s dr)) (qi 12 (Sp.rsD s dr)))
def m6_5 (s:List (List C)) (dr:Int):Int:=(Sp.mkV (qi 9 (Sp.rsD s dr)) (qi 12 (Sp.rsD s dr)) (qi 9 (Sp.rsD s dr)))
def m6_6 (s:List (List C)) (dr:Int):List (List C):=(Sp.duL (Sp.rsD s dr) 30)
def m6_0 (s:List (List C)) (dr:Int) (x:Int×List C):List (List C):=(Sp.wv x.1 (iLen (ql 10 (Sp.rsD s dr))) (qi 0 (rGet (m6_6 s dr) x.1)))
def m6_7 (s:List (List C)) (dr:Int) (x:Int×List C):Int:=(Sp.rcC x.2 (iLen (ql 10 (Sp.rsD s dr))) (m6_0 s dr x) (qi 13 x.2) (iAdd (qi 16 x.2) (iMul x.1 (qi 13 x.2))) (iAdd (iAdd (qi 16 x.2) (iMul x.1 (qi 13 x.2))) (qi 13 x.2)))
def m6_2 (s:List (List C)) (dr:Int) (x:Int×List C):Int:=(Sp.frm (m6_7 s dr x) (Sp.rcD x.2 (iLen (ql 10 (Sp.rsD s dr))) (m6_0 s dr x) (qi 13 x.2) (iAdd (qi 16 x.2) (iMul x.1 (qi 13 x.2))) (iAdd (iAdd (qi 16 x.2) (iMul x.1 (qi 13 x.2))) (qi 13 x.2))))
def m6_8 (s:List (List C)) (dr:Int) (x:Int×List C):Int:=(Sp.rcL x.2 (iLen (ql 10 (Sp.rsD s dr))) (m6_0 s dr x) (qi 13 x.2) (iAdd (qi 16 x.2) (iMul x.1 (qi 13 x.2))) (iAdd (iAdd (qi 16 x.2) (iMul x.1 (qi 13 x.2))) (qi 13 x.2)))
def m6_9 (s:List (List C)) (dr:Int) (x:Int×List C):Int:=(Sp.rcM x.2 (iLen (ql 10 (Sp.rsD s dr))) (m6_0 s dr x) (qi 13 x.2) (iAdd (qi 16 x.2) (iMul x.1 (qi 13 x.2))) (iAdd (iAdd (qi 16 x.2) (iMul x.1 (qi 13 x.2))) (qi 13 x.2)))
def m6_10 (s:List (List C)) (dr:Int) (x:Int×List C):Int:=(Sp.rcE x.2 (iLen (ql 10 (Sp.rsD s dr))) (m6_0 s dr x) (qi 13 x.2) (iAdd (qi 16 x.2) (iMul x.1 (qi 13 x.2))) (iAdd (iAdd (qi 16 x.2) (iMul x.1 (qi 13 x.2))) (qi 13 x.2)))
def m6_11 (s:List (List C)) (dr:Int) (x:Int×List C):List C:=(Sp.rcV x.2 (iLen (ql 10 (Sp.rsD s dr))) (m6_0 s dr x) (qi 13 x.2) (iAdd (qi 16 x.2) (iMul x.1 (qi 13 x.2))) (iAdd (iAdd (qi 16 x.2) (iMul x.1 (qi 13 x.2))) (qi 13 x.2)))
theorem v6 (s:List (List C)) (dr:Int):WL hB s∧InR .u8 dr→True∧True∧Cn (bNot true) (false=true) (pLe (iLen s) 9223372036854775807→geB none (some (iMin (iLen s) 300)) (iLen s)∧pNe 2 0∧InR .i64 (iAdd 1 (iRem dr 2))∧(iAdd 1 (iRem dr 2)=1∨iAdd 1 (iRem dr 2)=2)∧(WD hV (Sp.rsD s dr)→True∧Cn (bNot (qb 15 (Sp.rsD s dr))) (Sm true) (InR .i64 (iMul 4 (qi 12 (Sp.rsD s dr)))∧Cn (bLt (iMul 4 (qi 12 (Sp.rsD s dr))) (qi 9 (Sp.rsD s dr))) (Sm true) (True∧(InR .i64 (m6_5 s dr)∧InR .i64 (m6_4 s dr)∧InR .i64 (Sp.mkE (qi 9 (Sp.rsD s dr)) (qi 12 (Sp.rsD s dr)))→InR .i64 (iMul 30 (qi 13 (Sp.rsD s dr)))∧InR .i64 (iAdd (qi 16 (Sp.rsD s dr)) (iMul 30 (qi 13 (Sp.rsD s dr))))∧True∧True∧Cn (bNot (Sp.krB (ql 14 (Sp.rsD s dr)) (m6_5 s dr) (m6_4 s dr) (qi 5 (Sp.rsD s dr)) (qi 6 (Sp.rsD s dr)) (qi 13 (Sp.rsD s dr)) (qi 16 (Sp.rsD s dr)) (iAdd (qi 16 (Sp.rsD s dr)) (iMul 30 (qi 13 (Sp.rsD s dr)))))) (Sm true) (pLe (iLen (ql 10 (Sp.rsD s dr))) 9223372036854775807→(Sp.dvV (Sp.rsD s dr)=true∧pLe 0 30∧pLe 30 1000)∧(WL hI (m6_6 s dr)→pLe (iLen (m6_6 s dr)) 9223372036854775807→(∃(x:Int×List C),Sp.hoJ (Sp.rsD s dr) x.1 x.2∧0=x.1∧sg 0 [0,2,0,0,0,0,0,3,0,0,3,0,0,0,3,1,0,0,0,0,0,0,0,0,0,0,0,0,3,0,0] (Sp.rsD s dr)=sg 0 [0,2,0,0,0,0,0,3,0,0,3,0,0,0,3,1,0,0,0,0,0,0,0,0,0,0,0,0,3,0,0] x.2)∧∀(x:Int×List C),Sp.hoJ (Sp.rsD s dr) x.1 x.2→InR .i64 x.1∧WD hV x.2→Cn (bLt x.1 (iLen (m6_6 s dr))) (pIn 0 (iLen (m6_6 s dr)) x.1∧(InR .i64 (qi 0 (rGet (m6_6 s dr) x.1))→InR .i64 (iMul x.1 (qi 13 x.2))∧InR .i64 (iAdd (qi 16 x.2) (iMul x.1 (qi 13 x.2)))∧InR .i64 (iAdd (iAdd (qi 16 x.2) (iMul x.1 (qi 13 x.2))) (qi 13 x.2))∧Cn (bEq (qi 2 x.2) 1) ((Sm (0:Int)∧pLe 0 x.1∧pLe x.1 100∧pLe (iLen (ql 10 (Sp.rsD s dr))) 12∧pLe (qi 13 x.2) 70000)∧(InR .i64 (iLen (ql 10 (Sp.rsD s dr)))∧WL hW (m6_1 s dr x)→True∧(InR .i64 (Sp.pyC x.2 (iLen (ql 10 (Sp.rsD s dr))) (m6_1 s dr x) (iAdd (qi 16 x.2) (iMul x.1 (qi 13 x.2))) (iAdd (iAdd (qi 16 x.2) (iMul x.1 (qi 13 x.2))) (qi 13 x.2)))∧WL hW (Sp.pyD x.2 (iLen (ql 10 (Sp.rsD s dr))) (m6_1 s dr x) (iAdd (qi 16 x.2) (iMul x.1 (qi 13 x.2))) (iAdd (iAdd (qi 16 x.2) (iMul x.1 (qi 13 x.2))) (qi 13 x.2)))∧InR .i64 (Sp.pyL x.2 (iLen (ql 10 (Sp.rsD s dr))) (m6_1 s dr x) (iAdd (qi 16 x.2) (iMul x.1 (qi 13 x.2))) (iAdd (iAdd (qi 16 x.2) (iMul x.1 (qi 13 x.2))) (qi 13 x.2)))∧InR .i64 (Sp.pyM x.2 (iLen (ql 10 (Sp.rsD s dr))) (m6_1 s dr x) (iAdd (qi 16 x.2) (iMul x.1 (qi 13 x.2))) (iAdd (iAdd (qi 16 x.2) (iMul x.1 (qi 13 x.2))) (qi 13 x.2)))∧WD hV (Sp.pyV x.2 (iLen (ql 10 (Sp.rsD s dr))) (m6_1 s dr x) (iAdd (qi 16 x.2) (iMul x.1 (qi 13 x.2))) (iAdd (iAdd (qi 16 x.2) (iMul x.1 (qi 13 x.2))) (qi 13 x.2)))∧InR .i64 (Sp.pyE x.2 (iLen (ql 10 (Sp.rsD s dr))) (m6_1 s dr x) (iAdd (qi 16 x.2) (iMul x.1 (qi 13 x.2))) (iAdd (iAdd (qi 16 x.2) (iMul x.1 (qi 13 x.2))) (qi 13 x.2)))→Cn (bNe (Sp.pyE x.2 (iLen (ql 10 (Sp.rsD s dr))) (m6_1 s dr x) (iAdd (qi 16 x.2) (iMul x.1 (qi 13 x.2))) (iAdd (iAdd (qi 16 x.2) (iMul x.1 (qi 13 x.2))) (qi 13 x.2))) 0) (false=true) (Cn (bNe (Sp.pyL x.2 (iLen (ql 10 (Sp.rsD s dr))) (m6_1 s dr x) (iAdd (qi 16 x.2) (iMul x.1 (qi 13 x.2))) (iAdd (iAdd (qi 16 x.2) (iMul x.1 (qi 13 x.2))) (qi 13 x.2))) 0) (false=true) (Cn (bNe (Sp.pyM x.2 (iLen (ql 10 (Sp.rsD s dr))) (m6_1 s dr x) (iAdd (qi 16 x.2) (iMul x.1 (qi 13 x.2))) (iAdd (iAdd (qi 16 x.2) (iMul x.1 (qi 13 x.2))) (qi 13 x.2))) 0) (false=true) (True∧(InR .i64 (m6_3 s dr x)→Cn (bNe (m6_3 s dr x) (qi 0 (rGet (m6_6 s dr) x.1))) (false=true) (InR .i64 (iAdd x.1 1)∧Sm s∧Sm dr∧Sm (iLen (ql 10 (Sp.rsD s dr)))∧Sm (m6_6 s dr)∧Sm (iLen (m6_6 s dr))∧Sm [C.l (Sp.mdT (cutRows s none (some (iMin (iLen s) 300))) (iAdd 1 (iRem dr 2)))]∧Sm [C.i (m6_5 s dr),C.i (m6_4 s dr)]∧∃(y:Int×List C),Sp.hoJ (Sp.rsD s dr) y.1 y.2∧iAdd x.1 1=y.1∧sg 0 [0,2,0,0,0,0,0,3,0,0,3,0,0,0,3,1,0,0,0,0,0,0,0,0,0,0,0,0,3,0,0] (Sp.pyV x.2 (iLen (ql 10 (Sp.rsD s dr))) (m6_1 s dr x) (iAdd (qi 16 x.2) (iMul x.1 (qi 13 x.2))) (iAdd (iAdd (qi 16 x.2) (iMul x.1 (qi 13 x.2))) (qi 13 x.2)))=sg 0 [0,2,0,0,0,0,0,3,0,0,3,0,0,0,3,1,0,0,0,0,0,0,0,0,0,0,0,0,3,0,0] y.2∧nLt (30-y.1).toNat (30-x.1).toNat)))))))) ((Sm (0:Int)∧pLe 0 x.1∧pLe x.1 100∧pLe (iLen (ql 10 (Sp.rsD s dr))) 12∧pLe (qi 0 (rGet (m6_6 s dr) x.1)) 70000)∧(InR .i64 (iLen (ql 10 (Sp.rsD s dr)))∧WL hW (m6_0 s dr x)→True∧(InR .i64 (m6_7 s dr x)∧WL hW (Sp.rcD x.2 (iLen (ql 10 (Sp.rsD s dr))) (m6_0 s dr x) (qi 13 x.2) (iAdd (qi 16 x.2) (iMul x.1 (qi 13 x.2))) (iAdd (iAdd (qi 16 x.2) (iMul x.1 (qi 13 x.2))) (qi 13 x.2)))∧InR .i64 (m6_8 s dr x)∧InR .i64 (m6_9 s dr x)∧WD hV (m6_11 s dr x)∧InR .i64 (m6_10 s dr x)→Cn (bNe (m6_10 s dr x) 0) (false=true) (Cn (bNe (m6_8 s dr x) 0) (false=true) (Cn (bNe (m6_9 s dr x) 0) (false=true) (True∧(InR .i64 (m6_2 s dr x)→Cn (bNe (m6_2 s dr x) (qi 13 x.2)) (false=true) (InR .i64 (iAdd x.1 1)∧Sm s∧Sm dr∧Sm (iLen (ql 10 (Sp.rsD s dr)))∧Sm (m6_6 s dr)∧Sm (iLen (m6_6 s dr))∧Sm [C.l (Sp.mdT (cutRows s none (some (iMin (iLen s) 300))) (iAdd 1 (iRem dr 2)))]∧Sm [C.i (m6_5 s dr),C.i (m6_4 s dr)]∧∃(y:Int×List C),Sp.hoJ (Sp.rsD s dr) y.1 y.2∧iAdd x.1 1=y.1∧sg 0 [0,2,0,0,0,0,0,3,0,0,3,0,0,0,3,1,0,0,0,0,0,0,0,0,0,0,0,0,3,0,0] (m6_11 s dr x)=sg 0 [0,2,0,0,0,0,0,3,0,0,3,0,0,0,3,1,0,0,0,0,0,0,0,0,0,0,0,0,3,0,0] y.2∧nLt (30-y.1).toNat (30-x.1).toNat)))))))))) (Cn (bEq (qi 29 x.2) 0) (bEq (qi 30 x.2) 0=true) (false=true))))))))):=by
 intro hw
 have d0:0≤dr∧dr≤255:=by have:=hw.2; simp only[InR]at this; omega
 have dm:dr.tmod 2=dr % 2:=Int.tmod_eq_emod_of_nonneg d0.1
 have rng:∀ {k:Int},-1000000000000≤k→k≤1000000000000→InR .i64 k:=fun a b=>by simp only[InR]; omega
 simp only[D,E,F]
 refine fun _=>⟨⟨by omega,by omega⟩,by decide,rng (by omega) (by omega),by omega,fun _ hr=> ?_⟩
 have f:=Sp.md_f (r:=iAdd 1 (iRem dr 2)) hr
 have hv:Sp.dvV (Sp.rsD s dr)=true:=(Sp.md_run (r:=iAdd 1 (iRem dr 2)) hr).2.2
 have Q:=Sp.mdQ_b (cutRows s none (some (iMin (iLen s) 300))) (iAdd 1 (iRem dr 2))
 have f2:qi 2 (Sp.rsD s dr)=1+dr.tmod 2:=f.1
 have f3:qi 13 (Sp.rsD s dr)=Sp.mdQ (cutRows s none (some (iMin (iLen s) 300))) (iAdd 1 (iRem dr 2)):=f.2.1
 have f4:0≤qi 16 (Sp.rsD s dr)∧qi 16 (Sp.rsD s dr)≤64:=f.2.2.1
 have b:=Sp.dv_b hv
 refine⟨rng (by omega) (by omega),fun _ _=>⟨rng (by omega) (by omega),rng (by omega) (by omega),fun hk _=>⟨⟨hv,by decide,by decide⟩,fun _ _=>⟨⟨(0,Sp.rsD s dr),Sp.ho_md hr hk,rfl,rfl⟩,?_⟩⟩⟩⟩
 have L:=Sp.duL_len (Sp.rsD s dr) (n:=30) (by decide)
 have L':((m6_6 s dr).length:Int)=30:=L
 rw[L']
 rintro⟨k,d⟩ hj _
 simp only at hj ⊢
 obtain⟨⟨k0,k1⟩,⟨jv,jr⟩,⟨g2,g13,g16,g14,g10⟩,l1,l2,_⟩:=Sp.ho_in hj
 have oc:=Sp.ofH_ch (Sp.dvV_of hv).1.2.1
 refine⟨fun hl=>⟨⟨k0,hl⟩,fun _=> ?_⟩,fun _=>⟨fun _=>by simp[l2],fun h=>(h l1).elim⟩⟩
 have km:=mul_bd (x:=k) (X:=30) (y:=qi 13 d) (Y:=63) k0 (by omega) (by omega) (by omega)
 have du:=Sp.ho_due hj (by omega) (by omega) (by omega)
 have at_:qi 0 (rGet (m6_6 s dr) k)=Sp.tau (Sp.rsD s dr) (k+1)-Sp.tau (Sp.rsD s dr) k:=(Sp.duL_at (Sp.rsD s dr) (n:=30) k0 hl).trans du.2.2.2.2
 rw[at_]
 refine⟨rng (by omega) (by omega),rng (by omega) (by omega),rng (by omega) (by omega),fun h2=>⟨⟨k0,by omega,by omega,by omega⟩,fun _ _=> ?_⟩,fun h2=>⟨⟨k0,by omega,by omega,by omega⟩,fun _ _=> ?_⟩⟩
 · have y:=Sp.ho_py (s:=k) (ch:=((ql 10 (Sp.rsD s dr)).length:Int)) hj (by omega) (by omega) (by omega) (g2.symm.trans h2) rfl
   delta m6_1 m6_3
   refine⟨fun h=>(h y.1).elim,fun _=>⟨fun h=>(h y.2.1).elim,fun _=>⟨fun h=>(h y.2.2.1).elim,fun _ _=>⟨fun h=>(h y.2.2.2.1).elim,fun _=>⟨rng (by omega) (by omega),(k+1,_),y.2.2.2.2.1,rfl,rfl,by simp only; omega⟩⟩⟩⟩⟩
 · have y:=Sp.ho_rc (s:=k) (ch:=((ql 10 (Sp.rsD s dr)).length:Int)) hj (by omega) (by omega) (by omega) (by omega) rfl rfl
   have e0:m6_0 s dr (k,d)=Sp.wv k ((ql 10 (Sp.rsD s dr)).length:Int) (Sp.tau (Sp.rsD s dr) (k+1)-Sp.tau (Sp.rsD s dr) k):=by
    show Sp.wv k _ (qi 0 (rGet (m6_6 s dr) k))=_
    rw[at_]
   delta m6_7 m6_2 m6_8 m6_9 m6_10 m6_11 m6_7
   rw[e0]
   refine⟨fun h=>(h y.1).elim,fun _=>⟨fun h=>(h y.2.1).elim,fun _=>⟨fun h=>(h y.2.2.1).elim,fun _ _=>⟨fun h=>(h y.2.2.2.1).elim,fun _=>⟨rng (by omega) (by omega),(k+1,_),y.2.2.2.2.1,rfl,rfl,by simp only; omega⟩⟩⟩⟩⟩
theorem u6 (s:List (List C)) (dr:Int):Holds (hyp (wfP.go [.sl [.int .u8] s,.int .u8 dr]) (vcF PR (look (tbR [r11,r22,r34,r35,r36,r23,r18,r21,r32])) (fun _=>false) (A6 s dr) 8 6 [.sl [.int .u8] s,.int .u8 dr] [] (fun sv _=>isTrue sv))):=Y (v6 s dr)
end Go.Sx

