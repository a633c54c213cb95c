import Derived.Test.YtejdbdegdanecaaGreatSxVcs
set_option linter.unusedVariables false
set_option linter.unusedSimpArgs false
namespace Go.Sx
open Go.RowKit
variable {P:Program} {G:Nat->Option Ct}
theorem Aga:∀(xs ys:List SV),svLes xs ys->xs.length=ys.length
 |[],[],_=>rfl
 |[],y::ys,h=>by simp[svLes,svLe.go]at h
 |x::xs,[],h=>by simp[svLes,svLe.go]at h
 |x::xs,y::ys,h=>by
  simp only[svLes,svLe.go]at h;simp[Aga xs ys h.2]
mutual
theorem AfO {V:Vw}:∀(y x:SV) (v:Value),svLe x y->VR V x v->VR V y v
 | .any,x,v,_,_=>by simp[VR]
 | .int k n,x,v,h,hv=>by
  cases x<;>simp only[svLe]at h<;>try (exact h.elim)
  all_goals (obtain⟨rfl,rfl⟩:=h; simpa only[VR]using hv)
 | .lit k n,x,v,h,hv=>by
  cases x<;>simp only[svLe]at h<;>try (exact h.elim)
  obtain⟨rfl,rfl⟩:=h; simpa only[VR]using hv
 | .bool b,x,v,h,hv=>by
  cases x<;>simp only[svLe]at h<;>try (exact h.elim)
  all_goals (subst h; simpa only[VR]using hv)
 | .blit b,x,v,h,hv=>by
  cases x<;>simp only[svLe]at h<;>try (exact h.elim)
  subst h; simpa only[VR]using hv
 | .str s,x,v,h,hv=>by
  cases x<;>simp only[svLe]at h<;>try (exact h.elim)
  subst h; simpa only[VR]using hv
 | .sl e xs,x,v,h,hv=>by
  cases x<;>simp only[svLe]at h<;>try (exact h.elim)
  · obtain⟨rfl,rfl⟩:=h; exact hv
  · obtain⟨rfl,rfl⟩:=h;simp only[VR]at hv ⊢; exact hv.1
  · subst h;have:=AdT V (.sl e) .nils (.l []) v rfl hv;simpa only[VR]using this
  · rename_i n sz cs;have:=AdT V (.sl e) (.slit n sz cs) (.l xs) v (by simp only[toC]; rw[if_pos h.1,h.2]; rfl) hv;simpa only[VR]using this
  · subst h;have:=AdT V (.sl e) .emp (.l []) v rfl hv;simpa only[VR]using this
 | .slc _ _,x,v,h,hv=>by cases x<;>simp only[svLe]at h<;>exact h.elim
 | .nilq _,x,v,h,hv=>by cases x<;>simp only[svLe]at h<;>exact h.elim
 | .nils,x,v,h,hv=>by cases x<;>simp only[svLe]at h<;>first|exact h.elim|exact hv
 | .nilp,x,v,h,hv=>by cases x<;>simp only[svLe]at h<;>first|exact h.elim|exact hv
 | .ref k o,x,v,h,hv=>by
  cases x<;>simp only[svLe]at h<;>try (exact h.elim)
  obtain⟨rfl,rfl⟩:=h; exact hv
 | .own k c,x,v,h,hv=>by
  cases x<;>simp only[svLe]at h<;>try (exact h.elim)
  obtain⟨rfl,rfl⟩:=h; exact hv
 | .ownl _ _ _,x,v,h,hv=>by cases x<;>simp only[svLe]at h<;>exact h.elim
 | .emp,x,v,h,hv=>by
  cases x<;>simp only[svLe]at h<;>try (exact h.elim)
  · simp only[VR]at hv ⊢; exact⟨none,hv⟩
  · exact hv
 | .rref _ _ _ _ _,x,v,h,hv=>by
  cases x<;>simp only[svLe]at h<;>try (exact h.elim)
  obtain⟨rfl,rfl,rfl,rfl,rfl⟩:=h; exact hv
 | .ownv _ _ _ _ _,x,v,h,hv=>by
  cases x<;>simp only[svLe]at h<;>try (exact h.elim)
  obtain⟨rfl,rfl,rfl,rfl,rfl⟩:=h; exact hv
 | .undef,x,v,h,hv=>by cases x<;>simp only[svLe]at h<;>first|exact h.elim|exact hv
 | .agg cs,x,v,h,hv=>by
  cases x<;>simp only[svLe]at h<;>try (exact h.elim)
  simp only[VR]at hv ⊢;obtain⟨vs,rfl,h1,h2⟩:=hv;exact⟨vs,rfl,h1,Adt cs _ vs h h2⟩
 | .fn f cs,x,v,h,hv=>by
  cases x<;>simp only[svLe]at h<;>try (exact h.elim)
  obtain⟨rfl,h⟩:=h;simp only[VR]at hv ⊢;obtain⟨vs,rfl,h2⟩:=hv;exact⟨vs,rfl,Adt cs _ vs h h2⟩
 | .tup _,x,v,h,hv=>by cases x<;>simp[svLe]at h
 | .slit n sz cs,x,v,h,hv=>by
  cases x<;>simp only[svLe]at h<;>try (exact h.elim)
  obtain⟨rfl,rfl,h⟩:=h;simp only[VR]at hv ⊢;obtain⟨a,cap,hv,h1,h2,h3,b,o,ha,hb,hc⟩:=hv;exact⟨a,cap,hv,h1,h2,by rw[←h3]; exact(Aga _ _ h).symm,b,o,ha,hb,AdV cs _ b o h hc⟩
 | .cref cs,x,v,h,hv=>by
  cases x<;>simp only[svLe]at h<;>try (exact h.elim)
  simp only[VR]at hv ⊢;obtain⟨b,o,hv,hb,hc⟩:=hv;exact⟨b,o,hv,hb,AdV cs _ b o h hc⟩
theorem AdV {V:Vw}:∀(ys xs:List SV) (b o:Nat),svLes xs ys->VRc V xs b o->VRc V ys b o
 |[],xs,b,o,h,hv=>by simp only[VRc]
 |y::ys,xs,b,o,h,hv=>by
  cases xs with
  |nil=>simp[svLes,svLe.go]at h
  |cons x xs=>
   simp only[svLes,svLe.go]at h
   simp only[VRc]at hv ⊢
   obtain⟨⟨u,h1,h2,h3⟩,h4⟩:=hv
   exact⟨⟨u,h1,h2,AfO y x u h.1 h3⟩,AdV ys xs b (o+1) h.2 h4⟩
theorem Adt {V:Vw}:∀(ys xs:List SV) (vs:List Value),svLes xs ys->VRs V xs vs->VRs V ys vs
 |[],xs,vs,h,hv=>by
  cases xs with
  |nil=>exact hv
  |cons x xs=>simp[svLes,svLe.go]at h
 |y::ys,xs,vs,h,hv=>by
  cases xs with
  |nil=>simp[svLes,svLe.go]at h
  |cons x xs=>
   simp only[svLes,svLe.go]at h
   simp only[VRs]at hv ⊢
   obtain⟨v,r,rfl,h1,h2⟩:=hv
   exact⟨v,r,rfl,AfO y x v h.1 h1,Adt ys xs r h.2 h2⟩
end
mutual
theorem AgT:∀(y x:SV),svLe x y->Wf x->Wf y
 | .any,x,_,_=>by simp[Wf]
 | .int k n,x,h,hv=>by
  cases x<;>simp only[svLe]at h<;>try (exact h.elim)
  all_goals (obtain⟨rfl,rfl⟩:=h; simpa only[Wf]using hv)
 | .lit k n,x,h,hv=>by
  cases x<;>simp only[svLe]at h<;>try (exact h.elim)
  obtain⟨rfl,rfl⟩:=h; simpa only[Wf]using hv
 | .bool b,x,h,hv=>by simp[Wf]
 | .blit b,x,h,hv=>by simp[Wf]
 | .str s,x,h,hv=>by
  cases x<;>simp only[svLe]at h<;>try (exact h.elim)
  subst h; exact hv
 | .sl e xs,x,h,hv=>by
  cases x<;>simp only[svLe]at h<;>try (exact h.elim)
  · obtain⟨rfl,rfl⟩:=h; exact hv
  · obtain⟨rfl,rfl⟩:=h; exact hv
  · subst h; simp[Wf]
  · rename_i n sz cs;have:=Akg (.sl e) (.slit n sz cs) (.l xs) (by simp only[toC]; rw[if_pos h.1,h.2]; rfl) hv;simpa only[Wf,WfC,C.list]using this
  · subst h; simp[Wf]
 | .slc _ _,x,h,hv=>by cases x<;>simp only[svLe]at h<;>exact h.elim
 | .nilq _,x,h,hv=>by cases x<;>simp only[svLe]at h<;>exact h.elim
 | .nils,x,h,hv=>by simp[Wf]
 | .nilp,x,h,hv=>by simp[Wf]
 | .ref k o,x,h,hv=>by simp[Wf]
 | .own k c,x,h,hv=>by simp[Wf]
 | .ownl _ _ _,x,h,hv=>by simp[Wf]
 | .emp,x,h,hv=>by simp[Wf]
 | .rref _ _ _ _ _,x,h,hv=>by simp[Wf]
 | .ownv _ _ _ _ _,x,h,hv=>by simp[Wf]
 | .slit n sz cs,x,h,hv=>by
  cases x<;>simp only[svLe]at h<;>try (exact h.elim)
  obtain⟨rfl,rfl,h⟩:=h;simp only[Wf]at hv ⊢;exact⟨hv.1,Ac8 cs _ h hv.2⟩
 | .cref cs,x,h,hv=>by
  cases x<;>simp only[svLe]at h<;>try (exact h.elim)
  simp only[Wf]at hv ⊢;exact Ac8 cs _ h hv
 | .undef,x,h,hv=>by simp[Wf]
 | .agg cs,x,h,hv=>by
  cases x<;>simp only[svLe]at h<;>try (exact h.elim)
  simp only[Wf]at hv ⊢;exact Ac8 cs _ h hv
 | .fn f cs,x,h,hv=>by
  cases x<;>simp only[svLe]at h<;>try (exact h.elim)
  simp only[Wf]at hv ⊢;exact Ac8 cs _ h.2 hv
 | .tup _,x,h,hv=>by cases x<;>simp[svLe]at h
theorem Ac8:∀(ys xs:List SV),svLes xs ys->Wfs xs->Wfs ys
 |[],xs,h,hv=>by simp[Wfs]
 |y::ys,xs,h,hv=>by
  cases xs with
  |nil=>simp[svLes,svLe.go]at h
  |cons x xs=>
   simp only[svLes,svLe.go]at h
   simp only[Wfs]at hv ⊢
   exact⟨AgT y x h.1 hv.1,Ac8 ys xs h.2 hv.2⟩
end
theorem Aj5 {V:Vw} {k:Nat} {x y:HB} (h:hbLe x y) (hx:HBRep V k x):HBRep V k y:=by
 cases x<;>cases y<;>simp only[hbLe]at h<;>try (exact h.elim)
 · obtain⟨h,rfl⟩:=h;obtain⟨hL,b,vs,hp,hh,h1,hr⟩:=hx;exact⟨hL,b,vs,hp,hh,h1,Adt _ _ _ h hr⟩
 · obtain⟨rfl,rfl,rfl,rfl⟩:=h; exact hx
 · obtain⟨rfl,rfl,rfl⟩:=h; exact hx
 · obtain⟨rfl,rfl,rfl,rfl,rfl⟩:=h; exact hx
 · obtain⟨rfl,rfl,rfl,rfl,rfl,rfl⟩:=h; exact hx
theorem Ajl {x y:HB} (h:hbLe x y) (hx:WfHB x):WfHB y:=by
 cases x<;>cases y<;>simp only[hbLe]at h<;>try (exact h.elim)
 · obtain⟨h,rfl⟩:=h;simp only[WfHB]at hx ⊢;exact Ac8 _ _ h hx
 · obtain⟨rfl,rfl,rfl,rfl⟩:=h; exact hx
 · obtain⟨rfl,rfl,rfl⟩:=h; exact hx
 · obtain⟨rfl,rfl,rfl,rfl,rfl⟩:=h; exact hx
 · obtain⟨rfl,rfl,rfl,rfl,rfl,rfl⟩:=h; exact hx
def Vw.cut (V:Vw) (n:Nat):Vw:= {V with D:=λk=>V.D k/\k<n,bad:=λb=>V.bad b∨∃k,n<=k/\V.D k/\V.L k/\blkOf (V.p k)=some b}
theorem AeU {V:Vw} {n b:Nat} (h:V.ok b):(V.cut n).ok b:=⟨h.1,λhx=>hx.elim h.2.1 fun⟨k,_,hd,hl,he⟩=>h.2.2 k hd hl he,λk hk hl=>h.2.2 k hk.1 hl⟩
mutual
theorem VR.cut {V:Vw} {n:Nat}:∀(s:SV) (v:Value),below n s=true->VR V s v->VR (V.cut n) s v
 | .any,v,_,_=>by simp only[VR]
 | .undef,v,_,h=>by simpa only[VR]using h
 | .int k m,v,_,h=>by simpa only[VR]using h
 | .lit k m,v,_,h=>by simpa only[VR]using h
 | .bool b,v,_,h=>by simpa only[VR]using h
 | .blit b,v,_,h=>by simpa only[VR]using h
 | .str s,v,_,h=>by simpa only[VR]using h
 | .agg cs,v,hb,hr=>by
  simp only[VR]at hr ⊢;simp only[below]at hb;obtain⟨vs,hv,h1,hs⟩:=hr;exact⟨vs,hv,h1,VRs.cut cs vs hb hs⟩
 | .tup cs,v,hb,hr=>by
  simp only[VR]at hr ⊢;simp only[below]at hb;obtain⟨vs,hv,hs⟩:=hr;exact⟨vs,hv,VRs.cut cs vs hb hs⟩
 | .sl e xs,v,_,hr=>by
  simp only[VR]at hr ⊢;exact RepC.mono (λb hb=>⟨AeU hb,rfl⟩) _ _ _ hr
 | .slc e xs,v,_,hr=>by
  simp only[VR]at hr ⊢;exact⟨RepC.mono (λb hb=>⟨AeU hb,rfl⟩) _ _ _ hr.1,hr.2⟩
 | .nils,v,_,h=>by simpa only[VR]using h
 | .nilq _,v,_,h=>by simpa only[VR]using h
 | .slit m sz cs,v,hb,hr=>by
  simp only[VR]at hr ⊢;simp only[below]at hb;obtain⟨a,cap,hv,h1,h2,h3,b,o,ha,hok,hc⟩:=hr;exact⟨a,cap,hv,h1,h2,h3,b,o,ha,AeU hok,VRc.cut cs b o hb hc⟩
 | .ref k off,v,hb,hr=>by
  simp only[VR]at hr ⊢;simp only[below,AlE]at hb;obtain⟨hd,b,hp,hv⟩:=hr;exact⟨⟨hd,hb⟩,b,hp,hv⟩
 | .cref cs,v,hb,hr=>by
  simp only[VR]at hr ⊢;simp only[below]at hb;obtain⟨b,o,hv,hok,hc⟩:=hr;exact⟨b,o,hv,AeU hok,VRc.cut cs b o hb hc⟩
 | .nilp,v,_,h=>by simpa only[VR]using h
 | .own k c,v,hb,hr=>by
  simp only[VR]at hr ⊢;simp only[below,AlE]at hb;exact⟨⟨hr.1,hb⟩,hr.2⟩
 | .rref k c sz i off,v,hb,hr=>by
  simp only[VR]at hr ⊢;simp only[below,AlE]at hb;exact⟨⟨hr.1,hb⟩,hr.2⟩
 | .ownv k c sz lo m,v,hb,hr=>by
  simp only[VR]at hr ⊢;simp only[below,AlE]at hb;exact⟨⟨hr.1,hb⟩,hr.2⟩
 | .ownl k c xs,v,hb,hr=>by
  simp only[VR]at hr ⊢;simp only[below,AlE]at hb;exact⟨⟨⟨hr.1.1,hb⟩,hr.1.2⟩,hr.2⟩
 | .emp,v,_,h=>by simpa only[VR]using h
 | .fn f cs,v,hb,hr=>by
  simp only[VR]at hr ⊢;simp only[below]at hb;obtain⟨vs,hv,hs⟩:=hr;exact⟨vs,hv,VRs.cut cs vs hb hs⟩
theorem VRs.cut {V:Vw} {n:Nat}:∀(cs:List SV) (vs:List Value),Acs n cs=true->VRs V cs vs->VRs (V.cut n) cs vs
 |[],vs,_,h=>by simpa only[VRs]using h
 |c::cs,vs,hb,hr=>by
  simp only[VRs]at hr ⊢;simp only[Acs,AlG]at hb;obtain⟨v,r,hv,h1,h2⟩:=hr;exact⟨v,r,hv,VR.cut c v hb.1 h1,VRs.cut cs r hb.2 h2⟩
theorem VRc.cut {V:Vw} {n:Nat}:∀(cs:List SV) (b o:Nat),Acs n cs=true->VRc V cs b o->VRc (V.cut n) cs b o
 |[],_,_,_,_=>by simp only[VRc]
 |c::cs,b,o,hb,hr=>by
  simp only[VRc]at hr ⊢;simp only[Acs,AlG]at hb;obtain⟨⟨u,hu,h1,h2⟩,h3⟩:=hr;exact⟨⟨u,hu,h1,VR.cut c u hb.1 h2⟩,VRc.cut cs b _ hb.2 h3⟩
end
theorem HBRep.cut {V:Vw} {n k:Nat} {hb:HB} (hbl:Af3 n hb=true) (h:HBRep V k hb):HBRep (V.cut n) k hb:=by
 cases hb with
 |box cells t=>
  obtain⟨hL,b,vs,hp,hh,h1,hr⟩:=h
  exact⟨hL,b,vs,hp,hh,h1,VRs.cut _ _ hbl hr⟩
 |row e t c xs=>
  obtain⟨hL,hc,m,us,hown,hn,hr⟩:=h
  exact⟨hL,hc,m,us,hown,hn,RepRow.mono (λb hb=>⟨AeU hb,rfl⟩) e xs us hr⟩
 |froz e c xs=>
  obtain⟨hc,hr⟩:=h
  exact⟨hc,RepC.mono (λb hb=>⟨AeU hb,rfl⟩) _ _ _ hr⟩
 |mp kt g e c xs=>
  obtain⟨hL,hc,b,es,clock,hp,hh,hr⟩:=h
  exact⟨hL,hc,b,es,clock,hp,hh,EntsRep.mono (λb hb=>⟨AeU hb,rfl⟩) _ _ hr⟩
 |hrow t c m i x f=>
  obtain⟨hL,hc,us,hown,hone,hr⟩:=h
  exact⟨hL,hc,us,hown,hone,λj hj=>⟨λhe u hu=>VR.cut x u hbl ((hr j hj).1 he u hu),(hr j hj).2⟩⟩
 |gone=>exact h.elim
theorem AdG (ts:List Nat):∀(l:List SV) (i:Nat),(Aem ts i l).length=l.length
 |[],_=>rfl
 |_::r,i=>by simp[Aem,AdG ts r]
theorem Ac0 (ts:List Nat):∀(l:List SV) (i j:Nat),(Aem ts i l)[j]? =(l[j]?).map λx=>if ts.contains (i+j)then .any else x
 |[],_,_=>by simp[Aem]
 |x::r,i,0=>by simp[Aem]
 |x::r,i,j+1=>by
  simp only[Aem,List.getElem?_cons_succ];rw[Ac0 ts r (i+1) j,show i+1+j=i+(j+1) by omega]
theorem Agx (ts:List Nat):∀(l:List HB) (i:Nat),(AdZ ts i l).length=l.length
 |[],_=>rfl
 |_::r,i=>by simp[AdZ,Agx ts r]
theorem AeJ (ts:List Nat):∀(l:List HB) (i j:Nat),(AdZ ts i l)[j]? =(l[j]?).map λx=>if ts.contains (i+j)then .gone else x
 |[],_,_=>by simp[AdZ]
 |x::r,i,0=>by simp[AdZ]
 |x::r,i,j+1=>by
  simp only[AdZ,List.getElem?_cons_succ];rw[AeJ ts r (i+1) j,show i+1+j=i+(j+1) by omega]
theorem AeC:∀(xs:List (Nat×SV)) (l:List SV),(Ah4 l xs).length=l.length
 |[],l=>rfl
 |(i,y)::r,l=>by simp only[Ah4]; rw[AeC r]; simp
theorem setsT_get:∀(xs:List (Nat×SV)) (l:List SV) (j:Nat) (c:SV),(Ah4 l xs)[j]? =some c->(j,c)∈xs∨l[j]? =some c
 |[],l,j,c,h=> .inr h
 |(i,y)::r,l,j,c,h=>by
  simp only[Ah4]at h;rcases setsT_get r _ j c h with h|h
  · exact .inl (by simp[h])
  · rw[List.getElem?_set]at h;split at h
    · rename_i hij;split at h
      · injection h with h; subst h; subst hij; exact .inl (by simp)
      · cases h
    · exact .inr h
theorem Adu:∀(xs:List (Nat×HB)) (l:List HB),(Ah5 l xs).length=l.length
 |[],l=>rfl
 |(i,y)::r,l=>by simp only[Ah5]; rw[Adu r]; simp
theorem setsH_get:∀(xs:List (Nat×HB)) (l:List HB) (j:Nat) (c:HB),(Ah5 l xs)[j]? =some c->(j,c)∈xs∨(l[j]? =some c/\j∉xs.map (·.1))
 |[],l,j,c,h=> .inr ⟨h,by simp⟩
 |(i,y)::r,l,j,c,h=>by
  simp only[Ah5]at h;rcases setsH_get r _ j c h with h|⟨h,h'⟩
  · exact .inl (by simp[h])
  · rw[List.getElem?_set]at h;split at h
    · rename_i hij;split at h
      · injection h with h; subst h; subst hij; exact .inl (by simp)
      · cases h
    · rename_i hij;exact .inr ⟨h,by simp at h' ⊢; exact⟨λe=>hij e.symm,h'⟩⟩
theorem Aje {l:List SV}:∀ {xs:List (Nat×SV)} {i:Nat} {y:SV},leT l xs->(i,y)∈xs->svLe (l.getD i .undef) y
 |(j,z)::r,i,y,h,hm=>by
  simp only[leT]at h;rcases Amd.1 hm with hm|hm
  · injection hm with h1 h2; subst h1; subst h2; exact h.1
  · exact Aje h.2 hm
theorem Ajf {l:List HB}:∀ {xs:List (Nat×HB)} {i:Nat} {y:HB},leH l xs->(i,y)∈xs->hbLe (l.getD i .gone) y
 |(j,z)::r,i,y,h,hm=>by
  simp only[leH]at h;rcases Amd.1 hm with hm|hm
  · injection hm with h1 h2; subst h1; subst h2; exact h.1
  · exact Ajf h.2 hm
def Vw.ver (V:Vw) (ks:List Nat) (nv:Nat->Nat):Vw:= {V with c:=λk=>if k∈ks then nv k else V.c k}
theorem AcE (f:Nat->Nat->SV) (ks:List Nat):∀(cs:List SV),(Acg f ks cs).length=cs.length
 |[]=>by simp[Acg]
 |c::cs=>by simp[Acg,AcE f ks cs]
section
variable {V:Vw} {f:Nat->Nat->SV} {ks:List Nat} {nv:Nat->Nat}
def FOk (V:Vw) (f:Nat->Nat->SV) (ks:List Nat) (nv:Nat->Nat):Prop:=∀k c v,k∈ks->VR V (.own k c) v->VR (V.ver ks nv) (f k c) v
mutual
theorem VR.ver (hf:FOk V f ks nv):∀(s:SV) (v:Value),VR V s v->VR (V.ver ks nv) (mapO f ks s) v
 | .own k c,v,h=>by
  simp only[mapO];by_cases hk:k∈ks
  · rw[if_pos (by simpa using hk)];exact hf k c v hk h
  · rw[if_neg (by simpa using hk)];simp only[VR]at h ⊢;have e:(V.ver ks nv).c k=V.c k:=by simp[Vw.ver,hk]
    rw[e]; exact h
 | .ownv k c sz lo n,v,h=>by
  simp only[mapO];by_cases hk:k∈ks
  · rw[if_pos (by simpa using hk)];split
    · rename_i j d hfk;simp only[VR]at h ⊢;obtain⟨hd,hc,hs,hv⟩:=h;have all:∀u,VR V (.own k c) u->VR (V.ver ks nv) (.own j d) u:=λu hu=>by rw[←hfk]; exact hf k c u hk hu
      simp only[VR]at all;by_cases hcc:c=V.c k
      · obtain⟨a,N,cap,hp,h0,h1,h2,h3⟩:=hv hcc;obtain⟨g1,g2,_,g3⟩:=all (V.p k) ⟨hd,hc,.inl ⟨_,_,_,hp⟩,λ_=>rfl⟩;exact⟨g1,g2,hs,λhe=>⟨a,N,cap,by rw[←g3 he]; exact hp,h0,h1,h2,h3⟩⟩
      · have s1 := all (.slice none 0 0) ⟨hd, hc, .inl ⟨_, _, _, rfl⟩, λh => absurd h hcc⟩;have s2 := all (.slice none 1 1) ⟨hd, hc, .inl ⟨_, _, _, rfl⟩, λh => absurd h hcc⟩;exact ⟨s1.1, s1.2.1, hs, λhe => by
         have e1:=s1.2.2.2 he;have e2:=s2.2.2.2 he;rw[←e1]at e2
         cases e2⟩
    · simp only[VR]
  · rw[if_neg (by simpa using hk)];simp only[VR]at h ⊢;have e:(V.ver ks nv).c k=V.c k:=by simp[Vw.ver,hk]
    rw[e]; exact h
 | .rref k c sz i off,v,h=>by
  simp only[mapO];by_cases hk:k∈ks
  · rw[if_pos (by simpa using hk)]; simp only[VR]
  · rw[if_neg (by simpa using hk)];simp only[VR]at h ⊢;have e:(V.ver ks nv).c k=V.c k:=by simp[Vw.ver,hk]
    rw[e]; exact h
 | .agg cs,v,hr=>by
  simp only[mapO,VR]at hr ⊢;obtain⟨vs,hv,h1,hs⟩:=hr;exact⟨vs,hv,h1,VRs.ver hf cs vs hs⟩
 | .tup cs,v,hr=>by
  simp only[mapO,VR]at hr ⊢;obtain⟨vs,hv,hs⟩:=hr;exact⟨vs,hv,VRs.ver hf cs vs hs⟩
 | .slit n sz cs,v,hr=>by
  simp only[mapO,VR]at hr ⊢;obtain⟨a,cap,hv,h1,h2,h3,b,o,ha,hok,hc⟩:=hr;exact⟨a,cap,hv,h1,h2,by rw[AcE]; exact h3,b,o,ha,hok,VRc.ver hf cs b o hc⟩
 | .cref cs,v,hr=>by
  simp only[mapO,VR]at hr ⊢;obtain⟨b,o,hv,hok,hc⟩:=hr;exact⟨b,o,hv,hok,VRc.ver hf cs b o hc⟩
 | .fn g cs,v,hr=>by
  simp only[mapO,VR]at hr ⊢;obtain⟨vs,hv,hs⟩:=hr;exact⟨vs,hv,VRs.ver hf cs vs hs⟩
 | .sl e xs,v,hr=>by simp only[mapO,VR]at hr ⊢; exact hr
 | .slc e xs,v,hr=>by simp only[mapO,VR]at hr ⊢; exact hr
 | .nilq xs,v,hr=>by simp only[mapO,VR]at hr ⊢; exact hr
 | .ref k off,v,hr=>by simp only[mapO,VR]at hr ⊢; exact hr
 | .any,v,_=>by simp only[mapO,VR]
 | .undef,v,h=>by simpa only[mapO,VR]using h
 | .int k m,v,h=>by simpa only[mapO,VR]using h
 | .lit k m,v,h=>by simpa only[mapO,VR]using h
 | .bool b,v,h=>by simpa only[mapO,VR]using h
 | .blit b,v,h=>by simpa only[mapO,VR]using h
 | .str s,v,h=>by simpa only[mapO,VR]using h
 | .nils,v,h=>by simpa only[mapO,VR]using h
 | .nilp,v,h=>by simpa only[mapO,VR]using h
 | .ownl k c xs,v,h=>by
  simp only[mapO];by_cases hk:k∈ks
  · rw[if_pos (by simpa using hk)]; simp only[VR]
  · rw[if_neg (by simpa using hk)];simp only[VR]at h ⊢;have e:(V.ver ks nv).c k=V.c k:=by simp[Vw.ver,hk]
    rw[e]; exact h
 | .emp,v,h=>by simpa only[mapO,VR]using h
theorem VRs.ver (hf:FOk V f ks nv):∀(cs:List SV) (vs:List Value),VRs V cs vs->VRs (V.ver ks nv) (Acg f ks cs) vs
 |[],vs,h=>by simpa only[Acg,VRs]using h
 |c::cs,vs,hr=>by
  simp only[Acg,VRs]at hr ⊢;obtain⟨v,r,hv,h1,h2⟩:=hr;exact⟨v,r,hv,VR.ver hf c v h1,VRs.ver hf cs r h2⟩
theorem VRc.ver (hf:FOk V f ks nv):∀(cs:List SV) (b o:Nat),VRc V cs b o->VRc (V.ver ks nv) (Acg f ks cs) b o
 |[],_,_,_=>by simp only[Acg,VRc]
 |c::cs,b,o,hr=>by
  simp only[Acg,VRc]at hr ⊢;obtain⟨⟨u,hu,h1,h2⟩,h3⟩:=hr;exact⟨⟨u,hu,h1,VR.ver hf c u h2⟩,VRc.ver hf cs b _ h3⟩
end
theorem HBRep.ver (hf:FOk V f ks nv) {k:Nat} {hb:HB} (h:HBRep V k hb):HBRep (V.ver ks nv) k (hbMap f ks nv k hb):=by
 cases hb with
 |box cells t=>
  obtain⟨hL,b,vs,hp,hh,h1,hr⟩:=h
  exact⟨hL,b,vs,hp,hh,h1,VRs.ver hf _ _ hr⟩
 |row e t c xs=>
  obtain⟨hL,hc,m,us,hown,hn,hr⟩:=h
  simp only[hbMap]
  by_cases hk:k∈ks
  · rw[if_pos (by simpa using hk)]
    exact⟨hL,by simp[Vw.ver,hk],m,us,hown,hn,hr⟩
  · rw[if_neg (by simpa using hk)]
    exact⟨hL,by simpa[Vw.ver,hk]using hc,m,us,hown,hn,hr⟩
 |froz e c xs=>
  obtain⟨hc,hr⟩:=h
  simp only[hbMap]
  by_cases hk:k∈ks
  · rw[if_pos (by simpa using hk)]
    exact⟨by simp[Vw.ver,hk],hr⟩
  · rw[if_neg (by simpa using hk)]
    exact⟨by simpa[Vw.ver,hk]using hc,hr⟩
 |mp kt g e c xs=>
  obtain⟨hL,hc,hr⟩:=h
  simp only[hbMap]
  by_cases hk:k∈ks
  · rw[if_pos (by simpa using hk)]
    exact⟨hL,by simp[Vw.ver,hk],hr⟩
  · rw[if_neg (by simpa using hk)]
    exact⟨hL,by simpa[Vw.ver,hk]using hc,hr⟩
 |hrow t c m i x fr=>
  obtain⟨hL,hc,us,hown,hone,hr⟩:=h
  simp only[hbMap]
  by_cases hk:k∈ks
  · rw[if_pos (by simpa using hk)]
    exact⟨hL,by simp[Vw.ver,hk],us,hown,hone,λj hj=>⟨λhe u hu=>VR.ver hf x u ((hr j hj).1 he u hu),(hr j hj).2⟩⟩
  · rw[if_neg (by simpa using hk)]
    exact⟨hL,by simpa[Vw.ver,hk]using hc,us,hown,hone,λj hj=>⟨λhe u hu=>VR.ver hf x u ((hr j hj).1 he u hu),(hr j hj).2⟩⟩
 |gone=>exact h.elim
end
theorem AeK (f:Nat->Nat->SV) (ks:List Nat) (nv:Nat->Nat):∀(l:List HB) (i j:Nat),(AfV f ks nv i l)[j]? =(l[j]?).map (hbMap f ks nv (i+j))
 |[],_,_=>by simp[AfV]
 |h::r,i,0=>by simp[AfV]
 |h::r,i,j+1=>by
  simp only[AfV,List.getElem?_cons_succ];rw[AeK f ks nv r (i+1) j,show i+1+j=i+(j+1) by omega]
theorem mapHs_len (f:Nat->Nat->SV) (ks:List Nat) (nv:Nat->Nat):∀(l:List HB) (i:Nat),(AfV f ks nv i l).length=l.length
 |[],_=>by simp[AfV]
 |h::r,i=>by simp[AfV,mapHs_len f ks nv r]
theorem Agr {V:Vw} {a:Act} {s:St} {f:Nat->Nat->SV} {ks:List Nat} {nv:Nat->Nat} (hf:FOk V f ks nv) (hr:StRep V a s):StRep (V.ver ks nv) a (remap f ks nv s):=by
 refine⟨VRs.ver hf _ _ hr.tm,⟨λk hk=> ?_,hr.hp.lt,hr.hp.bd,hr.hp.nb,hr.hp.inj⟩,λk hk=> ?_,hr.df⟩
 · obtain⟨hb,h1,h2⟩:=hr.hp.rep k hk;refine⟨hbMap f ks nv k hb,?_,HBRep.ver hf h2⟩;simp only[remap];rw[AeK,h1]; simp
 · simp only[remap,mapHs_len]; exact hr.lt k hk
theorem Aj9 (V:Vw) (ks:List Nat) (nv:Nat->Nat):FOk V fDrop ks nv:=λk c v _ _=>by simp only[VR]
theorem Alo {V:Vw} {heap:List HB} (hH:Heap V (λk=>heap[k]?)) (ks:List Nat) (nv:Nat->Nat):FOk V (fTo nv heap) ks nv:=λk c v hk h=>by
 unfold fTo
 cases hcur:curOf heap k with
 |none=>simp[VR]
 |some p=>
  obtain⟨e,d,xs⟩:=p
  simp only
  split
  · rename_i hc
    simp only[AlE]at hc
    simp only[VR]at h ⊢
    obtain⟨hd,_,h1,h2⟩:=h
    have:=(curOf_rep hH hd rfl hcur).1
    refine⟨hd,by simp[Vw.ver,hk],h1,λ_=>h2 (by rw[this]; exact hc)⟩
  · simp only[VR]
mutual
theorem mapO_wf {f:Nat->Nat->SV} {ks:List Nat} (hf:∀k c,Wf (f k c)):∀(s:SV),Wf s->Wf (mapO f ks s)
 | .own k c,h=>by simp only[mapO]; split; exact hf k c; exact h
 | .rref k c sz i off,h=>by simp only[mapO]; split; simp[Wf]; exact h
 | .ownv k c sz lo n,h=>by simp only[mapO]; split<;>first|exact h|(split<;>simp[Wf])
 | .agg cs,h=>by simp only[mapO,Wf]at h ⊢; exact mapOs_wf hf cs h
 | .tup cs,h=>by simp only[mapO,Wf]at h ⊢; exact mapOs_wf hf cs h
 | .slit n sz cs,h=>by simp only[mapO,Wf]at h ⊢; exact⟨h.1,mapOs_wf hf cs h.2⟩
 | .cref cs,h=>by simp only[mapO,Wf]at h ⊢; exact mapOs_wf hf cs h
 | .fn g cs,h=>by simp only[mapO,Wf]at h ⊢; exact mapOs_wf hf cs h
 | .sl e xs,h=>by simpa only[mapO]using h
 | .slc e xs,h=>by simpa only[mapO]using h
 | .nilq xs,h=>by simpa only[mapO]using h
 | .ref k off,h=>by simpa only[mapO]using h
 | .any,h=>by simpa only[mapO]using h
 | .undef,h=>by simpa only[mapO]using h
 | .int k m,h=>by simpa only[mapO]using h
 | .lit k m,h=>by simpa only[mapO]using h
 | .bool b,h=>by simpa only[mapO]using h
 | .blit b,h=>by simpa only[mapO]using h
 | .str s,h=>by simpa only[mapO]using h
 | .nils,h=>by simpa only[mapO]using h
 | .nilp,h=>by simpa only[mapO]using h
 | .ownl k c xs,h=>by simp only[mapO]; split<;>simp[Wf]
 | .emp,h=>by simpa only[mapO]using h
theorem mapOs_wf {f:Nat->Nat->SV} {ks:List Nat} (hf:∀k c,Wf (f k c)):∀(cs:List SV),Wfs cs->Wfs (Acg f ks cs)
 |[],h=>by simpa only[Acg]using h
 |c::cs,h=>by
  simp only[Acg,Wfs]at h ⊢;exact⟨mapO_wf hf c h.1,mapOs_wf hf cs h.2⟩
end
mutual
theorem mapO_wf' {f:Nat->Nat->SV} {ks:List Nat}:∀(s:SV),Wf (mapO f ks s)->Wf s
 | .own k c,h=>by simp[Wf]
 | .rref k c sz i off,h=>by simp[Wf]
 | .ownv k c sz lo n,h=>by simp[Wf]
 | .agg cs,h=>by simp only[mapO,Wf]at h ⊢; exact mapOs_wf' cs h
 | .tup cs,h=>by simp only[mapO,Wf]at h ⊢; exact mapOs_wf' cs h
 | .slit n sz cs,h=>by simp only[mapO,Wf]at h ⊢; exact⟨h.1,mapOs_wf' cs h.2⟩
 | .cref cs,h=>by simp only[mapO,Wf]at h ⊢; exact mapOs_wf' cs h
 | .fn g cs,h=>by simp only[mapO,Wf]at h ⊢; exact mapOs_wf' cs h
 | .sl e xs,h=>by simpa only[mapO]using h
 | .slc e xs,h=>by simpa only[mapO]using h
 | .nilq xs,h=>by simpa only[mapO]using h
 | .ref k off,h=>by simpa only[mapO]using h
 | .any,h=>by simpa only[mapO]using h
 | .undef,h=>by simpa only[mapO]using h
 | .int k m,h=>by simpa only[mapO]using h
 | .lit k m,h=>by simpa only[mapO]using h
 | .bool b,h=>by simpa only[mapO]using h
 | .blit b,h=>by simpa only[mapO]using h
 | .str s,h=>by simpa only[mapO]using h
 | .nils,h=>by simpa only[mapO]using h
 | .nilp,h=>by simpa only[mapO]using h
 | .ownl k c xs,h=>by simp[Wf]
 | .emp,h=>by simpa only[mapO]using h
theorem mapOs_wf' {f:Nat->Nat->SV} {ks:List Nat}:∀(cs:List SV),Wfs (Acg f ks cs)->Wfs cs
 |[],h=>by simpa only[Acg]using h
 |c::cs,h=>by
  simp only[Acg,Wfs]at h ⊢;exact⟨mapO_wf' c h.1,mapOs_wf' cs h.2⟩
end
theorem Acf {f:Nat->Nat->SV} {ks:List Nat}:∀(l:List (Nat×SV)),WfTs (AfU f ks l)->WfTs l
 |[],h=>h
 |(i,y)::r,h=>by
  simp only[AfU,WfTs]at h ⊢;exact⟨mapO_wf' y h.1,Acf r h.2⟩
theorem Ach {f:Nat->Nat->SV} {ks:List Nat} {nv:Nat->Nat}:∀(l:List (Nat×HB)),WfHs (mapH1 f ks nv l)->WfHs l
 |[],h=>h
 |(i,y)::r,h=>by
  simp only[mapH1,WfHs]at h ⊢;refine⟨?_,Ach r h.2⟩;have h1:=h.1
  cases y<;>simp only[hbMap]at h1<;>(try split at h1)<;>first|(simp only[WfHB]at h1 ⊢; exact mapOs_wf' _ h1)|(simp only[WfHB]at h1 ⊢; exact mapO_wf' _ h1)|(simp only[WfHB]at h1 ⊢; exact h1)|simp only[WfHB]
theorem Aj4 {f:Nat->Nat->SV} {ks:List Nat} {nv:Nat->Nat} (hf:∀k c,Wf (f k c)) {k:Nat} {hb:HB} (h:WfHB hb):WfHB (hbMap f ks nv k hb):=by
 cases hb<;>simp only[hbMap]<;>(try split)<;>first|(simp only[WfHB]at h ⊢; exact mapOs_wf hf _ h)|(simp only[WfHB]at h ⊢; exact mapO_wf hf _ h)|(simp only[WfHB]at h ⊢; exact h)|simp only[WfHB]
theorem Ab8 {s:St} {f:Nat->Nat->SV} {ks:List Nat} {nv:Nat->Nat} (hf:∀k c,Wf (f k c)) (hw:StWf s):StWf (remap f ks nv s):=by
 refine⟨mapOs_wf hf _ hw.tm,λk hb hk=> ?_⟩;simp only[remap]at hk;rw[AeK]at hk
 cases hj:s.heap[k]? with
 |none=>simp[hj]at hk
 |some h0=>
  simp only[hj,AlM,AlC]at hk
  subst hk
  exact Aj4 hf (hw.hp k h0 hj)
theorem AeT (nv:Nat->Nat) (heap:List HB) (k c:Nat):Wf (fTo nv heap k c):=by
 unfold fTo
 cases hcur:curOf heap k with
 |none=>simp[Wf]
 |some p=>
  obtain⟨e,d,xs⟩:=p
  simp only
  split<;>simp[Wf]
theorem AhW (k c:Nat):Wf (fDrop k c):=by simp[Wf]
theorem mask_of_same {keep:List Nat} {l l' l0:List SV} (h:Aki keep l l') (hl:l'.length=l0.length):Aem (dropOf keep 0 l0) 0 l=Aem (dropOf keep 0 l0) 0 l':=by
 obtain⟨h1,h2⟩:=h;have h1:=Ae6 h1;apply List.ext_getElem?;intro i;rw[Ac0,Ac0];simp only[AmK];by_cases hi:i<l.length
 · have hi':i<l'.length:=by omega
   rw[List.getElem?_eq_getElem hi,List.getElem?_eq_getElem hi'];simp only[AlM,AlC];by_cases hk:i∈keep
   · have:=Af8 h2 i hk;simp only[List.getD_eq_getElem?_getD,List.getElem?_eq_getElem hi,List.getElem?_eq_getElem hi',Amj]at this;rw[this]
   · have:i∈dropOf keep 0 l0:=(Ad1 keep l0 0 i).2 ⟨by omega,by omega,hk⟩;rw[if_pos (by simpa using this),if_pos (by simpa using this)]
 · rw[List.getElem?_eq_none (by omega),List.getElem?_eq_none (by omega)]
theorem remap_len (f:Nat->Nat->SV) (ks:List Nat) (nv:Nat->Nat) (s:St):(remap f ks nv s).tmps.length=s.tmps.length:=by simp[remap,AcE]
theorem head_rep {V:Vw} {a:Act} {s s':St} {ws ks rk:List Nat} {nv:Nat->Nat} {ts:List (Nat×SV)} {hs:List (Nat×HB)} (hr:StRep V a s') (hw:StWf s') (hks:hs.map (·.1)=ks)
 (hm:Aem ws 0 (remap fDrop rk nv s').tmps=Aem ws 0 (remap fDrop rk nv s).tmps) (hmh:AdZ ks 0 ((remap fDrop rk nv s').heap.take s.heap.length)=AdZ ks 0 (remap fDrop rk nv s).heap)
 (hle:leT (remap (fTo nv s'.heap) rk nv s').tmps (AfU (fVer nv) rk ts)) (hlh:leH (remap (fTo nv s'.heap) rk nv s').heap (mapH1 (fVer nv) rk nv hs))
 (hb:Acs s.heap.length (headOf ws rk nv s ts hs).tmps=true) (hbh:(headOf ws rk nv s ts hs).heap.all (Af3 s.heap.length)=true):
 StRep ((V.ver rk nv).cut s.heap.length) a (headOf ws rk nv s ts hs)/\StWf (headOf ws rk nv s ts hs):=by
 have rD:=Agr (Aj9 V rk nv) hr;have rT:=Agr (Alo hr.hp rk nv) hr;have wD:=Ab8 (s:=s') (ks:=rk) (nv:=nv) AhW hw;have wT:=Ab8 (s:=s') (ks:=rk) (nv:=nv) (AeT nv s'.heap) hw;have hlenD:(remap fDrop rk nv s').tmps.length=s'.tmps.length:=by simp[remap,AcE]
 have hlenT:(remap (fTo nv s'.heap) rk nv s').tmps.length=s'.tmps.length:=by simp[remap,AcE]
 have hlen0:(remap fDrop rk nv s).tmps.length=s.tmps.length:=by simp[remap,AcE]
 have hlen:s'.tmps.length=s.tmps.length:=by have:=congrArg List.length hm; simp only[AdG]at this; omega
 have hL0:(remap fDrop rk nv s).heap.length=s.heap.length:=by simp[remap,mapHs_len]
 have hLD:(remap fDrop rk nv s').heap.length=s'.heap.length:=by simp[remap,mapHs_len]
 have hLT:(remap (fTo nv s'.heap) rk nv s').heap.length=s'.heap.length:=by simp[remap,mapHs_len]
 have hlenh:s.heap.length<=s'.heap.length:=by have:=congrArg List.length hmh; simp only[Agx,AlN]at this; omega
 have keysH:(mapH1 (fVer nv) rk nv hs).map (·.1)=ks:=by
  rw[←hks];clear hks hlh hb hbh
  induction hs with
  |nil=>rfl
  |cons p r ih=>obtain⟨i,y⟩:=p; simp[mapH1,ih]
 have key:∀(i:Nat) (c:SV),(headOf ws rk nv s ts hs).tmps[i]? =some c->(∃x,(remap (fTo nv s'.heap) rk nv s').tmps[i]? =some x/\svLe x c)∨∃x,(remap fDrop rk nv s').tmps[i]? =some x/\(c= .any∨x=c):=by
  intro i c hc;simp only[headOf]at hc;rcases setsT_get _ _ i c hc with h|h
  · left;have hi : i < (remap (fTo nv s'.heap) rk nv s').tmps.length := by
     have:=(List.getElem?_eq_some_iff.1 hc).1;rw[AeC,AdG]at this; omega
    refine⟨_,List.getElem?_eq_getElem hi,?_⟩;have:=Aje hle h;rwa [List.getD_eq_getElem?_getD,List.getElem?_eq_getElem hi,Amj]at this
  · right;rw[←hm,Ac0]at h
    cases hx:(remap fDrop rk nv s').tmps[i]? with
    |none=>simp[hx]at h
    |some x=>
     simp only[hx,AlM,AlC]at h
     refine⟨x,rfl,?_⟩
     split at h
     · exact .inl h.symm
     · exact .inr h
 have keyh:∀(i:Nat) (c:HB),(headOf ws rk nv s ts hs).heap[i]? =some c->(∃x,(remap (fTo nv s'.heap) rk nv s').heap[i]? =some x/\hbLe x c)∨(remap fDrop rk nv s').heap[i]? =some c:=by
  intro i c hc;have hi:i<s.heap.length:=by
   have:=(List.getElem?_eq_some_iff.1 hc).1;simp only[headOf]at this;rw[Adu]at this; omega
  simp only[headOf]at hc;rcases setsH_get _ _ i c hc with h|⟨h,hn⟩
  · left;have hi':i<(remap (fTo nv s'.heap) rk nv s').heap.length:=by omega
    have:=Ajf hlh h;rw[List.getD_eq_getElem?_getD,List.getElem?_eq_getElem hi',Amj]at this;exact⟨_,List.getElem?_eq_getElem hi',this⟩
  · right;rw[keysH]at hn;have hi':i<(remap fDrop rk nv s').heap.length:=by omega
    have h1:=AeJ ks ((remap fDrop rk nv s').heap.take s.heap.length) 0 i;have h2:=AeJ ks (remap fDrop rk nv s).heap 0 i;rw[hmh,h2,h,List.getElem?_take,if_pos hi,List.getElem?_eq_getElem hi']at h1;simp only[AlM,AmK,AlC]at h1;have hc':ks.contains i=false:=by simpa using hn
    simp only[hc',AlW,if_false]at h1;rw[List.getElem?_eq_getElem hi',←h1]
 refine⟨⟨?_,⟨λk hk=> ?_,λk b hk hl hbb=>hr.hp.lt k b hk.1 hl hbb,λb hb=>hb.elim (hr.hp.bd b) fun⟨k,_,hd,hl,he⟩=>hr.hp.lt k b hd hl he,λk b hk hl hbb hx=>hx.elim (hr.hp.nb k b hk.1 hl hbb) fun⟨j,hj,hd,hl',he⟩=>by have:=hr.hp.inj k j b hk.1 hl hd hl' hbb he; have:=hk.2; omega,λk k' b hk hl hk' hl' h1 h2=>hr.hp.inj k k' b hk.1 hl hk'.1 hl' h1 h2⟩,λk hk=> ?_,hr.df⟩,⟨?_,λk c hc=> ?_⟩⟩
 · refine VRs.cut _ _ hb (VRs.of_get ?_ λi c v hc hv=> ?_)
   · have:=hr.tm.len;simp only[headOf,AeC,AdG]; omega
   · rcases key i c hc with⟨x,hx,hle'⟩|⟨x,hx,hle'⟩
     · obtain⟨u,hu,hru⟩:=rT.tm.get i x hx;rw[hv]at hu; injection hu with hu; subst hu;exact AfO c x v hle' hru
     · obtain⟨u,hu,hru⟩:=rD.tm.get i x hx;rw[hv]at hu; injection hu with hu; subst hu;rcases hle' with rfl|rfl
       · simp[VR]
       · exact hru
 · have hlt:k<(headOf ws rk nv s ts hs).heap.length:=by simp only[headOf,Adu]; rw[hL0]; exact hk.2
   refine⟨(headOf ws rk nv s ts hs).heap[k],by simp[hlt],?_⟩;refine HBRep.cut ((Al6.1 hbh) _ (Anf hlt)) ?_;rcases keyh k (headOf ws rk nv s ts hs).heap[k] (by simp[hlt])with⟨x,hx,hle'⟩|hx
   · obtain⟨hb',h1,h2⟩:=rT.hp.rep k hk.1;simp only[hx,AlC]at h1; subst h1;exact Aj5 hle' h2
   · obtain⟨hb',h1,h2⟩:=rD.hp.rep k hk.1;simp only[hx,AlC]at h1; rw[h1]; exact h2
 · simp only[headOf,Adu]; rw[hL0]; exact hk.2
 · refine Wfs.all.2 λc hc=> ?_;obtain⟨i,hi,rfl⟩:=List.getElem_of_mem hc;rcases key i _ (List.getElem?_eq_getElem hi)with⟨x,hx,hle'⟩|⟨x,hx,hle'⟩
   · exact AgT _ x hle' (Wfs.all.1 wT.tm x (Amm hx))
   · rcases hle' with h|h
     · rw[h]; simp[Wf]
     · rw[←h]; exact Wfs.all.1 wD.tm x (Amm hx)
 · rcases keyh k c hc with⟨x,hx,hle'⟩|hx
   · exact Ajl hle' (wT.hp k x hx)
   · exact wD.hp k c hx
end Go.Sx

