import Derived.Test.YthflbgeplmecoaaGreatSxUse
import Derived.Test.YthflbgeplmecoaaGreatM21
set_option linter.unusedVariables false
set_option linter.unusedSimpArgs false
set_option maxRecDepth 100000
set_option maxHeartbeats 4000000
namespace Go
open Go.Sx
def Sp.mpL:List (List C):=[[.l [[.i 3]]],[.l [[.i 1],[.i 2]]],[.l [[.i 1],[.i 2],[.i 3],[.i 4],[.i 5],[.i 6]]],[.l [[.i 2],[.i 1]]],[.l [[.i 1],[.i 2],[.i 7],[.i 8]]],[.l [[.i 4]]],[.l [[.i 1],[.i 3]]]]
def Sp.mpV (n:Int):List (List C):=ql 0 (rGet Sp.mpL n)
end Go
namespace Go.Sx
end Go.Sx
namespace Go.Sx
theorem v81 (l:List (List C)):WL hB l→True→True∧(InR .i64 (Sp.dN l 7)→pIn 0 (iLen Sp.mpL) (Sp.dN l 7)∧(WL hI (ql 0 (rGet Sp.mpL (Sp.dN l 7)))→Sm (Sp.dT l 7)∧ql 0 (rGet Sp.mpL (Sp.dN l 7))=Sp.mpV (Sp.dN l 7))):=by
 intro hw hp
 have a:=Sp.dN_bd (l:=l) (n:=7) (by omega)
 simp only[D,E]
 exact fun _=>⟨⟨a.1,a.2⟩,fun _=>rfl⟩
def r81:Cr PR:=KB [r40,(mark 1000108)] 81 8 {ps:=[],rs:=[(false,hL)],pre:=fun _=>True,out:=fun a=>[[.l (Sp.dT (L a 0 0) 7)],[.l (Sp.mpV (Sp.dN (L a 0 0) 7))]],bx:=some (117,[.sl hB])} U fun a=>Y (v81 (L a 0 0))
end Go.Sx
namespace Go
open Go.Sx
def Sp.wvX (s i c:Int):List C:=[.i (((i*7919+c*104729+s*15485863) % 4001-2000)*1000)]
def Sp.wvR (s i m:Int):List (List C):=(List.range m.toNat).map fun(c:Nat)=>Sp.wvX s i c
def Sp.wv (s ch n:Int):List (List C):=(List.range n.toNat).flatMap fun(i:Nat)=>Sp.wvR s i ch
def Sp.wvO (s ch n i:Int) (ys:List (List C)):Prop:=0≤i∧(i≤n∨i=0)∧ys=Sp.wv s ch i
def Sp.wvI (s ch i c:Int) (ys:List (List C)):Prop:=0≤c∧(c≤ch∨c=0)∧ys=Sp.wv s ch i++Sp.wvR s i c
end Go
namespace Go
open Go.Sx
theorem Sp.wvR_c (s i:Int) {m c:Int} (h:m.toNat=c.toNat):Sp.wvR s i m=Sp.wvR s i c:=by unfold Sp.wvR; rw[h]
theorem Sp.wv_c (s ch:Int) {m c:Int} (h:m.toNat=c.toNat):Sp.wv s ch m=Sp.wv s ch c:=by unfold Sp.wv; rw[h]
theorem Sp.wv_s (s ch:Int) {i:Int} (h:0≤i):Sp.wv s ch (i+1)=Sp.wv s ch i++Sp.wvR s i ch:=by
 unfold Sp.wv
 rw[show(i+1).toNat=i.toNat+1 by omega,List.range_succ,List.flatMap_append,List.flatMap_singleton,Int.toNat_of_nonneg h]
theorem Sp.wvR_s (s i:Int) {c:Int} (h:0≤c):Sp.wvR s i (c+1)=Sp.wvR s i c++[Sp.wvX s i c]:=by
 unfold Sp.wvR
 rw[show(c+1).toNat=c.toNat+1 by omega,List.range_succ,List.map_append,List.map_singleton,Int.toNat_of_nonneg h]
theorem Sp.wv_len (s ch n:Int):((Sp.wv s ch n).length:Int)=n.toNat*ch.toNat:=by
 unfold Sp.wv
 generalize n.toNat=m
 induction m with
 |zero=>simp
 |succ m ih=>rw[List.range_succ,List.flatMap_append,List.flatMap_singleton,List.length_append,Int.natCast_add,ih,Sp.wvR,List.length_map,List.length_range,Int.natCast_succ,Int.add_mul]; omega
end Go
namespace Go.Sx
end Go.Sx
namespace Go.Sx
def A23 (s:Int) (ch:Int) (n:Int):FuncId→Nat→LoopAnn:=fun _ ii=>bif Nat.beq ii 3 then .ghostB 9 1 hW 21 (.inv (Int×List (List C)) (fun z=>Sp.wvO s ch n z.1 z.2) (fun z=>[(10,.int .i64 z.1)]) (fun z=>[(1,.box [.int .i64 ch,.own 2 0] 54),(2,.row hW 21 0 z.2)]) [1,2] [0,1,2,3,8,9,10,11,12,20,25] (fun z=>(n-z.1).toNat))else .on (fun sv0=>match sv0.tmps.getD 10 .undef with| .int _ ci=> .inv (Int×List (List C)) (fun z=>Sp.wvI s ch ci z.1 z.2) (fun z=>[(11,.int .i64 z.1)]) (fun z=>[(1,.box [.int .i64 ch,.own 2 0] 54),(2,.row hW 21 0 z.2)]) [1,2] [0,1,2,3,8,9,10,11,12,20,25] (fun z=>(ch-z.1).toNat)|_=> .unroll 0)
theorem v23 (s:Int) (ch:Int) (f:Int) (n:Int):InR .i64 s∧InR .i64 ch∧InR .i64 f∧InR .i64 n→f=0∧pLe 0 s∧pLe s 100∧pLe ch 12∧pLe n 70000→(∃(x:Int×List (List C)),Sp.wvO s ch n x.1 x.2∧f=x.1∧Sm ch∧[]=x.2)∧∀(x:Int×List (List C)),Sp.wvO s ch n x.1 x.2→InR .i64 x.1∧InR .i64 ch∧WL hW x.2→InR .i64 (iAdd f n)∧Cn (bLt x.1 (iAdd f n)) ((∃(x_1:Int×List (List C)),Sp.wvI s ch x.1 x_1.1 x_1.2∧0=x_1.1∧Sm ch∧x.2=x_1.2)∧∀(x_1:Int×List (List C)),Sp.wvI s ch x.1 x_1.1 x_1.2→InR .i64 x_1.1∧InR .i64 ch∧WL hW x_1.2→Cn (bLt x_1.1 ch) (InR .i64 (iMul x.1 7919)∧InR .i64 (iMul x_1.1 104729)∧InR .i64 (iAdd (iMul x.1 7919) (iMul x_1.1 104729))∧InR .i64 (iMul s 15485863)∧InR .i64 (iAdd (iAdd (iMul x.1 7919) (iMul x_1.1 104729)) (iMul s 15485863))∧pNe 4001 0∧InR .i64 (iSub (iRem (iAdd (iAdd (iMul x.1 7919) (iMul x_1.1 104729)) (iMul s 15485863)) 4001) 2000)∧InR .i64 (iMul (iSub (iRem (iAdd (iAdd (iMul x.1 7919) (iMul x_1.1 104729)) (iMul s 15485863)) 4001) 2000) 1000)∧pRoom 4 (iLen (x_1.2++[[C.i (iWrap .i32 (iMul (iSub (iRem (iAdd (iAdd (iMul x.1 7919) (iMul x_1.1 104729)) (iMul s 15485863)) 4001) 2000) 1000))]]))∧InR .i64 (iAdd x_1.1 1)∧Sm s∧Sm ch∧Sm f∧Sm n∧Sm x.1∧∃(y:Int×List (List C)),Sp.wvI s ch x.1 y.1 y.2∧iAdd x_1.1 1=y.1∧Sm ch∧x_1.2++[[C.i (iWrap .i32 (iMul (iSub (iRem (iAdd (iAdd (iMul x.1 7919) (iMul x_1.1 104729)) (iMul s 15485863)) 4001) 2000) 1000))]]=y.2∧nLt (ch-y.1).toNat (ch-x_1.1).toNat) (InR .i64 (iAdd x.1 1)∧Sm s∧Sm ch∧Sm f∧Sm n∧∃(y:Int×List (List C)),Sp.wvO s ch n y.1 y.2∧iAdd x.1 1=y.1∧Sm ch∧x_1.2=y.2∧nLt (n-y.1).toNat (n-x.1).toNat)) (Sm ch∧x.2=Sp.wv s ch n):=by
 intro hw hp
 simp only[D,E]at hp ⊢
 obtain⟨f0,s0,s1,c1,n1⟩:=hp
 subst f0
 refine⟨⟨(0,[]),⟨by simp only; omega,.inr rfl,rfl⟩,rfl,rfl⟩,?_⟩
 rintro⟨i,ys⟩ ⟨i0,i1,i2⟩ _
 simp only at i0 i1 i2 ⊢
 subst i2
 have rng:∀ {k:Int},-10000000000000000≤k→k≤10000000000000000→InR .i64 k:=fun a b=>by simp only[InR]; omega
 rename_i h0
 have hn:=h0
 refine⟨by simp only[InR]at*; omega,fun hl=> ?_,fun hl=> ?_⟩
 · refine⟨⟨(0,_),⟨by simp only; omega,.inr rfl,(List.append_nil _).symm⟩,rfl,rfl⟩,?_⟩
   rintro⟨m,zs⟩ ⟨m0,m1,m2⟩ _
   simp only at m0 m1 m2 ⊢
   subst m2
   have l1:=Sp.wv_len s ch i
   have l2:=mul_bd (x:=(i.toNat:Int)) (X:=70000) (y:=(ch.toNat:Int)) (Y:=12) (by omega) (by omega) (by omega) (by omega)
   refine⟨fun hc=> ?_,fun hc=>⟨rng (by omega) (by omega),(i+1,_),⟨by simp only; omega,.inl (by simp only; omega),?_⟩,rfl,rfl,by simp only; omega⟩⟩
   · rw[Int.tmod_eq_emod_of_nonneg (by omega)]
     have w:iWrap .i32 (((i*7919+m*104729+s*15485863) % 4001-2000)*1000)=((i*7919+m*104729+s*15485863) % 4001-2000)*1000:=InR.wrap (by simp only[InR]; omega)
     rw[w]
     refine⟨rng (by omega) (by omega),rng (by omega) (by omega),rng (by omega) (by omega),rng (by omega) (by omega),rng (by omega) (by omega),by omega,rng (by omega) (by omega),rng (by omega) (by omega),?_,rng (by omega) (by omega),(m+1,_),⟨by simp only; omega,.inl (by simp only; omega),?_⟩,rfl,rfl,by simp only; omega⟩
     · simp only[List.length_append,List.length_singleton,Sp.wvR,List.length_map,List.length_range]; omega
     · simp only; rw[Sp.wvR_s s i m0,←List.append_assoc]; rfl
   · simp only; rw[Sp.wv_s s ch i0,←Sp.wvR_c s i (show m.toNat=ch.toNat by omega)]
 · exact Sp.wv_c s ch (show i.toNat=n.toNat by omega)
def r23:Cr PR:=K [] 23 8 {ps:=[(false,hI),(false,hI),(false,hI),(false,hI)],rs:=[(true,[.int .i64,.sl hW])],pre:=fun a=>(I a 2 0)=0∧(pLe 0 (I a 0 0)∧(pLe (I a 0 0) 100∧(pLe (I a 1 0) 12∧pLe (I a 3 0) 70000))),out:=fun a=>[[.i (I a 1 0),.l (Sp.wv (I a 0 0) (I a 1 0) (I a 3 0))]]} (fun a=>A23 (I a 0 0) (I a 1 0) (I a 3 0)) fun a=>Y (v23 (I a 0 0) (I a 1 0) (I a 2 0) (I a 3 0))
end Go.Sx

set_option linter.unusedVariables false
set_option linter.unusedSimpArgs false
set_option maxRecDepth 100000
set_option maxHeartbeats 4000000
namespace Go
open Go.Sx
def Sp.jnK (ys:List (List C)) (lo:Int):Nat→Nat
 |0=>0
 |k+1=>if lo<qi 0 (rGet ys k)then Sp.jnK ys lo k else k+1
def Sp.jnI (ys:List (List C)) (x:List C):List (List C):=ys.take (Sp.jnK ys (qi 0 x) ys.length)++[[.i (qi 0 x),.i (qi 1 x)]]++ys.drop (Sp.jnK ys (qi 0 x) ys.length)
def Sp.jnS (xs:List (List C)):List (List C):=xs.foldl Sp.jnI []
def Sp.jnM (zs:List (List C)) (x:List C):List (List C):=if 0≤(zs.length:Int)-1∧qi 0 x-1≤qi 1 (rGet zs ((zs.length:Int)-1))then rSet zs ((zs.length:Int)-1) [.i (qi 0 (rGet zs ((zs.length:Int)-1))),.i (max (qi 1 (rGet zs ((zs.length:Int)-1))) (qi 1 x))]else zs++[[.i (qi 0 x),.i (qi 1 x)]]
def Sp.jnO (xs:List (List C)):List (List C):=(Sp.jnS xs).foldl Sp.jnM []
def Sp.spO (x:List C):Bool:=decide (0≤qi 0 x∧qi 0 x≤qi 1 x∧qi 1 x≤2147483647)
def Sp.spA (xs:List (List C)):Bool:=xs.all Sp.spO
def Sp.fdI (f:List (List C)→List C→List (List C)) (xs:List (List C)) (i:Int) (ys:List (List C)):Prop:=0≤i∧i≤(xs.length:Int)∧ys=(xs.take i.toNat).foldl f []
def Sp.jnC (ys:List (List C)) (lo k:Int):Prop:=0≤k∧k≤(ys.length:Int)∧Sp.jnK ys lo k.toNat=Sp.jnK ys lo ys.length
end Go
namespace Go
open Go.Sx
theorem fold_inv {P:List (List C)→Prop} {f:List (List C)→List C→List (List C)}:∀ {xs ys:List (List C)},(∀x∈xs,∀ys,P ys→P (f ys x))→P ys→P (xs.foldl f ys)
 |[],_,_,hy=>hy
 |x::r,ys,h,hy=>fold_inv (xs:=r) (fun y hm=>h y (List.mem_cons_of_mem _ hm)) (h x List.mem_cons_self ys hy)
theorem fold_len {f:List (List C)→List C→List (List C)} (h:∀ys x,(f ys x).length≤ys.length+1):∀ {xs ys:List (List C)},(xs.foldl f ys).length≤ys.length+xs.length
 |[],_=>Nat.le_refl _
 |x::r,ys=>by
  have:=fold_len h (xs:=r) (ys:=f ys x)
  have:=h ys x
  rw[List.foldl_cons,List.length_cons]; omega
section
variable {f:List (List C)→List C→List (List C)} {xs ys:List (List C)} {i:Int}
theorem Sp.fd_0:Sp.fdI f xs 0 []:=⟨Int.le_refl _,by omega,rfl⟩
theorem Sp.fd_s (h:Sp.fdI f xs i ys) (hl:i<(xs.length:Int)):Sp.fdI f xs (i+1) (f ys (rGet xs i)):=by
 obtain⟨h0,h1,rfl⟩:=h
 exact⟨by omega,by omega,by rw[take_s h0 hl,List.foldl_append]; rfl⟩
theorem Sp.fd_e (h:Sp.fdI f xs i ys) (hl:¬i<(xs.length:Int)):ys=xs.foldl f []:=by rw[h.2.2,List.take_of_length_le (by omega)]
theorem Sp.fd_i {P:List (List C)→Prop} (h:Sp.fdI f xs i ys) (h0:P []) (hs:∀x∈xs,∀ys,P ys→P (f ys x)):P ys:=by
 rw[h.2.2]; exact fold_inv (fun x hx=>hs x (List.mem_of_mem_take hx)) h0
theorem Sp.fd_l (h:Sp.fdI f xs i ys) (hf:∀ys x,(f ys x).length≤ys.length+1):ys.length≤xs.length:=by
 rw[h.2.2]
 have:=fold_len hf (xs:=xs.take i.toNat) (ys:=[])
 rw[List.length_take,List.length_nil]at this; omega
end
theorem Sp.jnI_len (ys:List (List C)) (x:List C):(Sp.jnI ys x).length≤ys.length+1:=by
 unfold Sp.jnI
 rw[List.length_append,List.length_append,List.length_take,List.length_drop,List.length_singleton]; omega
theorem Sp.jnM_len (ys:List (List C)) (x:List C):(Sp.jnM ys x).length≤ys.length+1:=by
 unfold Sp.jnM
 split
 · unfold rSet; rw[List.length_set]; omega
 · rw[List.length_append,List.length_singleton]; omega
theorem Sp.jnI_all {ys:List (List C)} {x:List C} (h:Sp.spA ys=true) (hx:Sp.spO x=true):Sp.spA (Sp.jnI ys x)=true:=by
 unfold Sp.spA at*
 have hx':Sp.spO [.i (qi 0 x),.i (qi 1 x)]=true:=hx
 unfold Sp.jnI
 rw[List.all_append,List.all_append,List.all_cons,hx',List.all_nil]
 simp only[List.all_eq_true,Bool.and_eq_true]at h ⊢
 exact⟨⟨fun y hy=>h y (List.mem_of_mem_take hy),trivial,trivial⟩,fun y hy=>h y (List.mem_of_mem_drop hy)⟩
theorem Sp.jnI_at {ys:List (List C)} {x:List C} {k:Int} (h:Sp.jnK ys (qi 0 x) ys.length=k.toNat):cutRows ys none (some k)++[sg 0 [0,0] x]++cutRows ys (some k) none=Sp.jnI ys x:=by
 unfold Sp.jnI; rw[h]; rfl
end Go
namespace Go.Sx
def A271 (xs:List (List C)):FuncId→Nat→LoopAnn:=fun _ ii=>bif Nat.beq ii 3 then .inv (Int×List (List C)) (fun z=>Sp.fdI Sp.jnI xs z.1 z.2) (fun z=>[(13,.int .i64 z.1),(3,.sl hII z.2)]) (fun _=>[]) [] [0,2,3,4,6,7,9,10,11,12,13,14,31,46,47,48,49,67] (fun z=>xs.length-z.1.toNat)else bif Nat.beq ii 6 then .on (fun sv0=>match sv0.tmps.getD 3 .undef,sv0.tmps.getD 13 .undef with| .sl _ ys,.int _ ci=> .inv Int (fun z=>Sp.jnC ys (qi 0 (rGet xs ci)) z) (fun z=>[(7,.int .i64 z)]) (fun _=>[]) [] [0,2,3,4,6,7,9,10,11,12,13,14,31,46,47,48,49,67] (fun z=>z.toNat)|_,_=> .unroll 0)else bif Nat.beq ii 11 then .on (fun sv0=>match sv0.tmps.getD 3 .undef with| .sl _ ys=> .ghost 4 hII 104 (.on (fun sv1=>match sv1.tmps.getD 4 .undef with| .own kk _=> .inv (Int×List (List C)) (fun z=>Sp.fdI Sp.jnM ys z.1 z.2) (fun z=>[(48,.int .i64 z.1),(4,.own kk 0)]) (fun z=>[(kk,.row hII 104 0 z.2)]) [kk] [0,2,3,4,6,7,9,10,11,12,13,14,31,46,47,48,49,67] (fun z=>ys.length-z.1.toNat)|_=> .unroll 0))|_=> .unroll 0)else .unroll 0
def m271_0 (xs:List (List C)) (x:Int×List (List C)) (x_1:Int):Prop:=geB none (some x_1) (iLen x.2)∧pRoom 16 (iLen (cutRows x.2 none (some x_1)))∧pRoom 16 (iLen (cutRows x.2 none (some x_1)++[sg 0 [0,0] (rGet xs x.1)]))∧geB (some x_1) none (iLen x.2)∧pRoom 16 (iLen (cutRows x.2 none (some x_1)++[sg 0 [0,0] (rGet xs x.1)]++cutRows x.2 (some x_1) none))∧InR .i64 (iAdd x.1 1)∧Sm xs∧Sm xs∧Sm (iLen xs)∧∃(y:Int×List (List C)),Sp.fdI Sp.jnI xs y.1 y.2∧iAdd x.1 1=y.1∧cutRows x.2 none (some x_1)++[sg 0 [0,0] (rGet xs x.1)]++cutRows x.2 (some x_1) none=y.2∧nLt (xs.length-y.1.toNat) (xs.length-x.1.toNat)
def m271_1 (xs:List (List C)) (x:Int×List (List C)) (x_1:Int×List (List C)):Prop:=pRoom 16 (iLen (x_1.2++[sg 0 [0,0] (rGet x.2 x_1.1)]))∧InR .i64 (iAdd x_1.1 1)∧Sm xs∧Sm x.2∧Sm xs∧Sm (iLen xs)∧Sm x.1∧Sm x.2∧Sm (iLen x.2)∧∃(y:Int×List (List C)),Sp.fdI Sp.jnM x.2 y.1 y.2∧iAdd x_1.1 1=y.1∧x_1.2++[sg 0 [0,0] (rGet x.2 x_1.1)]=y.2∧nLt (x.2.length-y.1.toNat) (x.2.length-x_1.1.toNat)
theorem v271 (xs:List (List C)):WL hII xs→Sp.spA xs=true∧pLe (iLen xs) 1000→pLe (iLen xs) 9223372036854775807→(∃(x:Int×List (List C)),Sp.fdI Sp.jnI xs x.1 x.2∧0=x.1∧x.2=[])∧∀(x:Int×List (List C)),Sp.fdI Sp.jnI xs x.1 x.2→InR .i64 x.1∧WL hII x.2→Cn (bLt x.1 (iLen xs)) (pIn 0 (iLen xs) x.1∧(InR .i64 (qi 0 (rGet xs x.1))∧InR .i64 (qi 1 (rGet xs x.1))→pLe (iLen x.2) 9223372036854775807→(∃(x_1:Int),Sp.jnC x.2 (qi 0 (rGet xs x.1)) x_1∧iLen x.2=x_1)∧∀(x_1:Int),Sp.jnC x.2 (qi 0 (rGet xs x.1)) x_1→InR .i64 x_1→Cn (bLt 0 x_1) (InR .i64 (iSub x_1 1)∧pIn 0 (iLen x.2) (iSub x_1 1)∧(InR .i64 (qi 0 (rGet x.2 (iSub x_1 1)))→Cn (bLt (qi 0 (rGet xs x.1)) (qi 0 (rGet x.2 (iSub x_1 1)))) (InR .i64 (iSub x_1 1)∧Sm xs∧Sm x.2∧Sm xs∧Sm (iLen xs)∧Sm x.1∧Sm (sg 0 [0,0] (rGet xs x.1))∧∃(y:Int),Sp.jnC x.2 (qi 0 (rGet xs x.1)) y∧iSub x_1 1=y∧nLt y.toNat x_1.toNat) ((m271_0 xs x x_1)))) ((m271_0 xs x x_1)))) (pLe (iLen x.2) 9223372036854775807→(∃(x_1:Int×List (List C)),Sp.fdI Sp.jnM x.2 x_1.1 x_1.2∧0=x_1.1∧[]=x_1.2)∧∀(x_1:Int×List (List C)),Sp.fdI Sp.jnM x.2 x_1.1 x_1.2→InR .i64 x_1.1∧WL hII x_1.2→Cn (bLt x_1.1 (iLen x.2)) (pIn 0 (iLen x.2) x_1.1∧(InR .i64 (qi 0 (rGet x.2 x_1.1))∧InR .i64 (qi 1 (rGet x.2 x_1.1))→pLe (iLen x_1.2) 9223372036854775807→InR .i64 (iSub (iLen x_1.2) 1)∧Cn (bLe 0 (iSub (iLen x_1.2) 1)) (InR .i64 (iSub (qi 0 (rGet x.2 x_1.1)) 1)∧pIn 0 (iLen x_1.2) (iSub (iLen x_1.2) 1)∧(InR .i64 (qi 1 (rGet x_1.2 (iSub (iLen x_1.2) 1)))→Cn (bLe (iSub (qi 0 (rGet x.2 x_1.1)) 1) (qi 1 (rGet x_1.2 (iSub (iLen x_1.2) 1)))) (pIn 0 (iLen x_1.2) (iSub (iLen x_1.2) 1)∧(InR .i64 (qi 1 (rGet x_1.2 (iSub (iLen x_1.2) 1)))→pIn 0 (iLen x_1.2) (iSub (iLen x_1.2) 1)∧InR .i64 (iAdd x_1.1 1)∧Sm xs∧Sm x.2∧Sm xs∧Sm (iLen xs)∧Sm x.1∧Sm x.2∧Sm (iLen x.2)∧∃(y:Int×List (List C)),Sp.fdI Sp.jnM x.2 y.1 y.2∧iAdd x_1.1 1=y.1∧rSet x_1.2 (iSub (iLen x_1.2) 1) [C.i (qi 0 (rGet x_1.2 (iSub (iLen x_1.2) 1))),C.i (iMax (qi 1 (rGet x_1.2 (iSub (iLen x_1.2) 1))) (qi 1 (rGet x.2 x_1.1)))]=y.2∧nLt (x.2.length-y.1.toNat) (x.2.length-x_1.1.toNat))) ((m271_1 xs x x_1)))) ((m271_1 xs x x_1)))) (x_1.2=Sp.jnO xs)):=by
 intro hw hp
 delta m271_0 m271_1
 simp only[D,E]at hp ⊢
 have sp:∀x∈xs,Sp.spO x=true:=by have:=hp.1; unfold Sp.spA at this; exact List.all_eq_true.1 this
 intro _
 refine⟨⟨(0,[]),Sp.fd_0,rfl,rfl⟩,?_⟩
 rintro⟨i,ys⟩ hi _
 simp only at hi ⊢
 have i0:=hi.1
 have yl:=Sp.fd_l hi Sp.jnI_len
 have ya:Sp.spA ys=true:=Sp.fd_i (P:=fun ys=>Sp.spA ys=true) hi rfl fun x hx ys h=>Sp.jnI_all h (sp x hx)
 have ym:∀k,0≤k→k<(ys.length:Int)→0≤qi 0 (rGet ys k):=fun k h0 h1=>by
  have:=List.all_eq_true.1 ya _ (rGet_mem h0 h1)
  unfold Sp.spO at this; rw[decide_eq_true_eq]at this; exact this.1
 refine⟨fun hl=>⟨⟨i0,hl⟩,fun _ _=>⟨⟨_,⟨by omega,Int.le_refl _,by rw[Int.toNat_natCast]⟩,rfl⟩,?_⟩⟩,fun hl=> ?_⟩
 · intro k ⟨k0,k1,k2⟩ _
   have fin:Sp.jnK ys (qi 0 (rGet xs i)) ys.length=k.toNat→geB none (some k) (ys.length:Int)∧((cutRows ys none (some k)).length:Int)*16≤140737488355328∧((cutRows ys none (some k)++[sg 0 [0,0] (rGet xs i)]).length:Int)*16≤140737488355328∧geB (some k) none (ys.length:Int)∧((cutRows ys none (some k)++[sg 0 [0,0] (rGet xs i)]++cutRows ys (some k) none).length:Int)*16≤140737488355328∧InR .i64 (i+1)∧∃y:Int×List (List C),Sp.fdI Sp.jnI xs y.1 y.2∧i+1=y.1∧cutRows ys none (some k)++[sg 0 [0,0] (rGet xs i)]++cutRows ys (some k) none=y.2∧xs.length-y.1.toNat<xs.length-i.toNat:=fun e=>by
    refine⟨⟨k0,k1⟩,?_,?_,⟨k0,k1⟩,?_,by simp only[InR]; omega,(i+1,_),Sp.fd_s hi hl,rfl,Sp.jnI_at e,by simp only; omega⟩<;>simp only[List.length_append,cutRows,List.length_take,List.length_drop,List.length_singleton]<;>omega
   refine⟨fun h=>⟨by simp only[InR]; omega,⟨by omega,by omega⟩,fun _=>⟨fun h1=>⟨by simp only[InR]; omega,k-1,⟨by omega,by omega,?_⟩,rfl,by omega⟩,fun h1=>fin ?_⟩⟩,fun h=>fin ?_⟩
   · rw[←k2,show k.toNat=(k-1).toNat+1 by omega,Sp.jnK,Int.toNat_of_nonneg (by omega),if_pos h1]
   · rw[←k2,show k.toNat=(k-1).toNat+1 by omega,Sp.jnK,Int.toNat_of_nonneg (by omega),if_neg h1]
   · rw[←k2,show k.toNat=0 by omega]; rfl
 · have ye:=Sp.fd_e hi hl
   refine fun _=>⟨⟨(0,[]),Sp.fd_0,rfl,rfl⟩,?_⟩
   rintro⟨j,zs⟩ hj _
   simp only at hj ⊢
   have j0:=hj.1
   have zl:=Sp.fd_l hj Sp.jnM_len
   refine⟨fun hm=> ?_,fun hm=>by rw[Sp.fd_e hj hm,ye]; rfl⟩
   have a0:=ym j j0 hm
   have st:∀ {w},w=Sp.jnM zs (rGet ys j)→∃y:Int×List (List C),Sp.fdI Sp.jnM ys y.1 y.2∧j+1=y.1∧w=y.2∧ys.length-y.1.toNat<ys.length-j.toNat:=fun e=>⟨(j+1,_),Sp.fd_s hj hm,rfl,e,by simp only; omega⟩
   have rm:((zs++[sg 0 [0,0] (rGet ys j)]).length:Int)*16≤140737488355328:=by rw[List.length_append,List.length_singleton]; omega
   have ix:InR .i64 (j+1):=by simp only[InR]; omega
   refine⟨⟨j0,hm⟩,fun hr _=>⟨by simp only[InR]; omega,fun h=>⟨by simp only[InR]at*; omega,⟨h,by omega⟩,fun _=>⟨fun h1=>⟨⟨h,by omega⟩,fun _=>⟨⟨h,by omega⟩,ix,st (if_pos ⟨h,h1⟩).symm⟩⟩,fun h1=>⟨rm,ix,st (if_neg fun g=>h1 g.2).symm⟩⟩⟩,fun h=>⟨rm,ix,st (if_neg fun g=>h g.1).symm⟩⟩⟩
def r271:Cr PR:=K [] 271 8 {ps:=[(false,[.sl hII])],rs:=[(false,[.sl hII])],pre:=fun a=>Sp.spA (L a 0 0)=true∧pLe (iLen (L a 0 0)) 1000,out:=fun a=>[[.l (Sp.jnO (L a 0 0))]]} (fun a=>A271 (L a 0 0)) fun a=>Y (v271 (L a 0 0))
end Go.Sx

set_option linter.unusedVariables false
set_option linter.unusedSimpArgs false
set_option maxRecDepth 100000
set_option maxHeartbeats 4000000
namespace Go
open Go.Sx
def Sp.mkO (xs:List (List C)):Int:=if Sp.spA xs=false then 2 else if 64<(Sp.jnO xs).length then 3 else 0
def Sp.mkS (xs:List (List C)):List (List C):=if Sp.mkO xs=0 then Sp.jnO xs else[]
def Sp.pkS (s:List (List C)×List (List C)) (x:List C):List (List C)×List (List C):=(Sp.dT s.1 2,if Sp.dN s.1 2=1 then s.2++[[.i (qi 0 x),.i (qi 1 x)]]else s.2)
def Sp.pk (xs l:List (List C)):List (List C)×List (List C):=xs.foldl Sp.pkS (l,[])
def Sp.pkI (xs l:List (List C)) (i:Int) (k ys:List (List C)):Prop:=0≤i∧i≤(xs.length:Int)∧ys.length≤i.toNat∧(xs.take i.toNat).foldl Sp.pkS (l,[])=(k,ys)
def Sp.seY (xs l:List (List C)):List (List C):=if(Sp.pk xs l).2=[]then[[.i (qi 0 (rGet xs (Sp.dN (Sp.pk xs l).1 xs.length))),.i (qi 1 (rGet xs (Sp.dN (Sp.pk xs l).1 xs.length)))]]else(Sp.pk xs l).2
def Sp.seT (xs l:List (List C)):List (List C):=if(Sp.pk xs l).2=[]then Sp.dT (Sp.pk xs l).1 xs.length else(Sp.pk xs l).1
end Go
namespace Go.Sx
def A251 (xs:List (List C)):FuncId→Nat→LoopAnn:=fun _ ii=>bif Nat.beq ii 2 then .inv Int (fun z=>Sp.alI Sp.spO xs z) (fun z=>[(9,.int .i64 z)]) (fun _=>[]) [] [0,2,3,5,6,7,8,9,10,27,36] (fun z=>xs.length-z.toNat)else .unroll 0
theorem v251 (xs:List (List C)):WL hII xs→pLe (iLen xs) 1000→pLe (iLen xs) 9223372036854775807→(∃(x:Int),Sp.alI Sp.spO xs x∧0=x)∧∀(x:Int),Sp.alI Sp.spO xs x→InR .i64 x→Cn (bLt x (iLen xs)) (pIn 0 (iLen xs) x∧(InR .i64 (qi 0 (rGet xs x))∧InR .i64 (qi 1 (rGet xs x))→Cn (bLt (qi 0 (rGet xs x)) 0) ([]=Sp.mkS xs∧2=Sp.mkO xs) (Cn (bLt (qi 1 (rGet xs x)) (qi 0 (rGet xs x))) ([]=Sp.mkS xs∧2=Sp.mkO xs) (Cn (bLt 2147483647 (qi 1 (rGet xs x))) ([]=Sp.mkS xs∧2=Sp.mkO xs) (InR .i64 (iAdd x 1)∧Sm xs∧Sm xs∧Sm (iLen xs)∧∃(y:Int),Sp.alI Sp.spO xs y∧iAdd x 1=y∧nLt (xs.length-y.toNat) (xs.length-x.toNat)))))) ((Sp.spA xs=true∧pLe (iLen xs) 1000)∧(WL hII (Sp.jnO xs)→pLe (iLen (Sp.jnO xs)) 9223372036854775807→Cn (bLt 64 (iLen (Sp.jnO xs))) ([]=Sp.mkS xs∧3=Sp.mkO xs) (Sp.jnO xs=Sp.mkS xs∧0=Sp.mkO xs))):=by
  intro hw hp
  simp only[D,E]at hp ⊢
  have sf:∀x,Sp.spO x=decide (0≤qi 0 x∧qi 0 x≤qi 1 x∧qi 1 x≤2147483647):=fun _=>rfl
  refine fun _=>lpA al0 (fun x h=>h.1) (fun x h h0 hx _=> ?_) (fun x h hx=> ?_)
  · have no:Sp.spO (rGet xs x)=false→[]=Sp.mkS xs∧2=Sp.mkO xs:=fun hf=>by
      have e:Sp.mkO xs=2:=if_pos (alB h hx hf).symm
      exact⟨(if_neg (by omega)).symm,e.symm⟩
    refine⟨fun h1=>no ((sf _).trans (decide_eq_false (by omega))),fun h1=>⟨fun h2=>no ((sf _).trans (decide_eq_false (by omega))),fun h2=>⟨fun h3=>no ((sf _).trans (decide_eq_false (by omega))),fun h3=>⟨inS hw h0 hx,x+1,alN h hx ((sf _).trans (decide_eq_true (by omega))),rfl,by omega⟩⟩⟩⟩
  · have a:Sp.spA xs=true:=(alE h hx).symm
    have e:Sp.mkO xs=if 64<(Sp.jnO xs).length then 3 else 0:=if_neg (by simp[a])
    refine⟨⟨a,hp⟩,fun _ _=>⟨fun h1=> ?_,fun h1=> ?_⟩⟩
    · rw[if_pos (by omega)]at e
      exact⟨(if_neg (by omega)).symm,e.symm⟩
    · rw[if_neg (by omega)]at e
      exact⟨(if_pos e).symm,e.symm⟩
def r251:Cr PR:=K [r271] 251 8 {ps:=[(false,[.sl hII])],rs:=[(true,[.sl hII]),(false,hI)],pre:=fun a=>pLe (iLen (L a 0 0)) 1000,out:=fun a=>[[.l (Sp.mkS (L a 0 0))],[.i (Sp.mkO (L a 0 0))]]} (fun a=>A251 (L a 0 0)) fun a=>Y (v251 (L a 0 0))
end Go.Sx
namespace Go.Sx
def A205 (l:List (List C)) (xs:List (List C)):FuncId→Nat→LoopAnn:=fun _ ii=>bif Nat.beq ii 3 then .ghost 5 hII 104 (.inv (Int×List (List C)×List (List C)) (fun z=>Sp.pkI xs l z.1 z.2.1 z.2.2) (fun z=>[(12,.int .i64 z.1),(5,.own 2 0)]) (fun z=>[(0,.box [.sl [.int .u8] z.2.1] 117),(2,.row hII 104 0 z.2.2)]) [0,2] [0,1,4,5,7,8,10,11,12,13,18,26] (fun z=>xs.length-z.1.toNat))else .unroll 0
theorem v205 (l:List (List C)) (xs:List (List C)):WL hB l∧WL hII xs→pLe 1 (iLen xs)∧pLe (iLen xs) 100→pLe (iLen xs) 9223372036854775807→(∃(x:Int×List (List C)×List (List C)),Sp.pkI xs l x.1 x.2.1 x.2.2∧0=x.1∧l=x.2.1∧[]=x.2.2)∧∀(x:Int×List (List C)×List (List C)),Sp.pkI xs l x.1 x.2.1 x.2.2→InR .i64 x.1∧WL hB x.2.1∧WL hII x.2.2→Cn (bLt x.1 (iLen xs)) (pIn 0 (iLen xs) x.1∧(InR .i64 (qi 0 (rGet xs x.1))∧InR .i64 (qi 1 (rGet xs x.1))→True∧(InR .i64 (Sp.dN x.2.1 2)→Cn (bEq (Sp.dN x.2.1 2) 1) (pRoom 16 (iLen (x.2.2++[sg 0 [0,0] (rGet xs x.1)]))∧InR .i64 (iAdd x.1 1)∧Sm xs∧Sm xs∧Sm (iLen xs)∧∃(y:Int×List (List C)×List (List C)),Sp.pkI xs l y.1 y.2.1 y.2.2∧iAdd x.1 1=y.1∧Sp.dT x.2.1 2=y.2.1∧x.2.2++[sg 0 [0,0] (rGet xs x.1)]=y.2.2∧nLt (xs.length-y.1.toNat) (xs.length-x.1.toNat)) (InR .i64 (iAdd x.1 1)∧Sm xs∧Sm xs∧Sm (iLen xs)∧∃(y:Int×List (List C)×List (List C)),Sp.pkI xs l y.1 y.2.1 y.2.2∧iAdd x.1 1=y.1∧Sp.dT x.2.1 2=y.2.1∧x.2.2=y.2.2∧nLt (xs.length-y.1.toNat) (xs.length-x.1.toNat))))) (pLe (iLen x.2.2) 9223372036854775807→Cn (bEq (iLen x.2.2) 0) (pLe (iLen xs) 9223372036854775807→True∧(InR .i64 (Sp.dN x.2.1 (iLen xs))→pIn 0 (iLen xs) (Sp.dN x.2.1 (iLen xs))∧(InR .i64 (qi 0 (rGet xs (Sp.dN x.2.1 (iLen xs))))∧InR .i64 (qi 1 (rGet xs (Sp.dN x.2.1 (iLen xs))))→pRoom 16 (iLen (x.2.2++[sg 0 [0,0] (rGet xs (Sp.dN x.2.1 (iLen xs)))]))∧pLe (iLen (x.2.2++[sg 0 [0,0] (rGet xs (Sp.dN x.2.1 (iLen xs)))])) 1000∧(WL hII (Sp.mkS (x.2.2++[sg 0 [0,0] (rGet xs (Sp.dN x.2.1 (iLen xs)))]))∧InR .i64 (Sp.mkO (x.2.2++[sg 0 [0,0] (rGet xs (Sp.dN x.2.1 (iLen xs)))]))→Sp.dT x.2.1 (iLen xs)=Sp.seT xs l∧Sp.mkS (x.2.2++[sg 0 [0,0] (rGet xs (Sp.dN x.2.1 (iLen xs)))])=Sp.mkS (Sp.seY xs l))))) (pLe (iLen x.2.2) 1000∧(WL hII (Sp.mkS x.2.2)∧InR .i64 (Sp.mkO x.2.2)→x.2.1=Sp.seT xs l∧Sp.mkS x.2.2=Sp.mkS (Sp.seY xs l)))):=by
 intro hw hp
 simp only[D,E]at hp ⊢
 refine fun _=>⟨⟨(0,l,[]),⟨Int.le_refl _,by simp only; omega,Nat.le_refl _,rfl⟩,rfl,rfl,rfl⟩,?_⟩
 rintro⟨i,k,ys⟩ ⟨i0,i1,i2,i3⟩ _
 simp only at i0 i1 i2 i3 ⊢
 have nx:i<(xs.length:Int)→(xs.take (i+1).toNat).foldl Sp.pkS (l,[])=Sp.pkS (k,ys) (rGet xs i):=fun h=>by rw[take_s i0 h,List.foldl_append,i3]; rfl
 refine⟨fun hl=>⟨⟨i0,hl⟩,fun _ _=>⟨fun h=>⟨?_,by simp only[InR]; omega,(i+1,_,_),⟨by simp only; omega,by simp only; omega,by simp; omega,(nx hl).trans ?_⟩,rfl,rfl,rfl,by simp only; omega⟩,fun h=>⟨by simp only[InR]; omega,(i+1,_,_),⟨by simp only; omega,by simp only; omega,by simp only; omega,(nx hl).trans ?_⟩,rfl,rfl,rfl,by simp only; omega⟩⟩⟩,fun hl _=> ?_⟩
 · rw[List.length_append,List.length_singleton]; omega
 · unfold Sp.pkS; rw[if_pos h]; rfl
 · unfold Sp.pkS; rw[if_neg h]; rfl
 have e:Sp.pk xs l=(k,ys):=by rw[←i3,List.take_of_length_le (by omega)]; rfl
 unfold Sp.seY Sp.seT
 rw[e]
 have dn:=Sp.dN_bd (l:=k) (n:=(xs.length:Int)) (by omega)
 refine⟨fun h _ _=> ?_,fun h=> ?_⟩
 · have y0:ys=[]:=List.eq_nil_of_length_eq_zero (by omega)
   subst y0
   exact⟨dn,fun _=>⟨by simp,by simp,fun _=>⟨rfl,rfl⟩⟩⟩
 · have y0:¬ys=[]:=fun a=>h (by rw[a]; rfl)
   exact⟨by omega,fun _=>⟨(if_neg y0).symm,by rw[if_neg y0]⟩⟩
def r205:Cr PR:=KB [r40,r251] 205 8 {ps:=[(false,[.sl hII])],rs:=[(true,[.sl hII])],pre:=fun a=>pLe 1 (iLen (L a 1 0))∧pLe (iLen (L a 1 0)) 100,out:=fun a=>[[.l (Sp.seT (L a 1 0) (L a 0 0))],[.l (Sp.mkS (Sp.seY (L a 1 0) (L a 0 0)))]],bx:=some (117,[.sl hB])} (fun a=>A205 (L a 0 0) (L a 1 0)) fun a=>Y (v205 (L a 0 0) (L a 1 0))
end Go.Sx

set_option linter.unusedVariables false
set_option linter.unusedSimpArgs false
set_option maxRecDepth 100000
set_option maxHeartbeats 4000000
namespace Go
open Go.Sx
def Sp.bxK:Nat→List (List C)→Int→List (List C)×Int
 |0,l,k=>(l,k)
 |n+1,l,k=>Sp.bxK n (Sp.dT l 7) (iOr .i64 k (iShl 1 (iAdd 1 (Sp.dN l 7))))
def Sp.bxQ (m:List (List C)) (x:List C):Bool:=decide ((ql 0 x).length=m.length)&&decide (qi 0 (rGet (ql 0 x) 0)=qi 0 (rGet m 0))
def Sp.bxA (ms m:List (List C)):Bool:=ms.any (Sp.bxQ m)
def Sp.bxM:Nat→List (List C)→List (List C)→List (List C)×List (List C)
 |0,l,ms=>(l,ms)
 |n+1,l,ms=>Sp.bxM n (Sp.dT l 7) (if Sp.bxA ms (Sp.mpV (Sp.dN l 7))then ms else ms++[[.l (Sp.mpV (Sp.dN l 7))]])
def Sp.bxR:List (List C):=[[.i 44100,.i 44100],[.i 48000,.i 48000],[.i 8000,.i 8000],[.i 32000,.i 50000],[.i 96000,.i 192000]]
def Sp.bxZ:List (List C):=[[.i 16,.i 64],[.i 64,.i 1024],[.i 2048,.i 2048],[.i 1,.i 65536]]
def Sp.bx1 (l:List (List C)):List (List C)×Int:=Sp.bxK (Sp.dN (Sp.dT l 7) 3).toNat (Sp.dT (Sp.dT l 7) 3) (iShl 1 (iAdd 1 (Sp.dN l 7)))
def Sp.bx2 (l:List (List C)):List (List C):=Sp.seT Sp.bxR (Sp.bx1 l).1
def Sp.bx3 (l:List (List C)):List (List C):=Sp.seT Sp.bxZ (Sp.bx2 l)
def Sp.bx4 (l:List (List C)):List (List C)×List (List C):=Sp.bxM (1+Sp.dN (Sp.bx3 l) 3).toNat (Sp.dT (Sp.bx3 l) 3) []
def Sp.bxV (l:List (List C)):List C:=[.i (Sp.bx1 l).2,.l (Sp.mkS (Sp.seY Sp.bxR (Sp.bx1 l).1)),.l (Sp.bx4 l).2,.l (Sp.mkS (Sp.seY Sp.bxZ (Sp.bx2 l)))]
def Sp.bxT (l:List (List C)):List (List C):=(Sp.bx4 l).1
def Sp.b1I (l:List (List C)) (n:Int) (k:List (List C)) (v:Int):Prop:=(0≤n∧n≤3)∧Sp.bxK n.toNat k v=Sp.bx1 l
def Sp.b2I (l:List (List C)) (n:Int) (k ms:List (List C)):Prop:=(0≤n∧n≤3∧(ms.length:Int)+n≤3)∧ms.all (fun x=>decide (1≤(ql 0 x).length))=true∧Sp.bxM n.toNat k ms=Sp.bx4 l
def Sp.b3I (ms m:List (List C)) (i:Int):Prop:=0≤i∧i≤(ms.length:Int)∧True
def Sp.anT (ms m:List (List C)) (i:Int):Bool:=(ms.take i.toNat).any (Sp.bxQ m)
end Go
namespace Go
open Go.Sx
theorem Sp.mpV_len {x:Int} (h0:0≤x) (h1:x<7):1≤(Sp.mpV x).length∧(Sp.mpV x).length≤8:=by
 rcases(show x=0∨x=1∨x=2∨x=3∨x=4∨x=5∨x=6 by omega)with rfl|rfl|rfl|rfl|rfl|rfl|rfl<;>decide
theorem Sp.bx_sh {x:Int} (h0:0≤x) (h1:x<7):InR .i64 (1+x)∧pSh 64 (1+x)∧InR .i64 (iShl 1 (1+x)):=by
 rcases(show x=0∨x=1∨x=2∨x=3∨x=4∨x=5∨x=6 by omega)with rfl|rfl|rfl|rfl|rfl|rfl|rfl<;>simp[InR,pSh]
theorem Sp.an_s {ms m:List (List C)} {i:Int} (h0:0≤i) (h1:i<(ms.length:Int)):Sp.anT ms m (i+1)=(Sp.anT ms m i||Sp.bxQ m (rGet ms i)):=by
 unfold Sp.anT; rw[take_s h0 h1,List.any_append,List.any_cons,List.any_nil,Bool.or_false]
theorem Sp.an_e {ms m:List (List C)} {i:Int} (h1:¬i<(ms.length:Int)):Sp.anT ms m i=Sp.bxA ms m:=by
 unfold Sp.anT Sp.bxA; rw[List.take_of_length_le (by omega)]
end Go
namespace Go.Sx
def A141 (l:List (List C)):FuncId→Nat→LoopAnn:=fun _ ii=>bif Nat.beq ii 3 then .inv (Int×List (List C)×Int) (fun z=>Sp.b1I l z.1 z.2.1 z.2.2) (fun z=>[(4,.int .i64 z.1)]) (fun z=>[(0,.box [.sl [.int .u8] z.2.1] 117),(2,.box [.int .i64 z.2.2,.nils,.nils,.nils] 110)]) [0,2] [0,2,3,4,5,6,7,9,18,50,56,57,58,59,81] (fun z=>z.1.toNat)else bif Nat.beq ii 9 then .ghostB 3 2 [.sl hI] 28 (.on (fun sv0=>match(sv0.heap[2]? :Option HB)with|some (.box [kd,rt,_,sz] _)=> .inv (Int×List (List C)×List (List C)) (fun z=>Sp.b2I l z.1 z.2.1 z.2.2) (fun z=>[(5,.int .i64 z.1)]) (fun z=>[(0,.box [.sl [.int .u8] z.2.1] 117),(2,.box [kd,rt,.own 3 0,sz] 110),(3,.row [.sl hI] 28 0 z.2.2)]) [0,2,3] [0,2,3,4,5,6,7,9,18,50,56,57,58,59,81] (fun z=>z.1.toNat)|_=> .unroll 0))else bif Nat.beq ii 14 then .on (fun sv0=>match sv0.tmps.getD 6 .undef with| .sl _ mm=>(match(sv0.heap[3]? :Option HB)with|some (.row _ _ _ ms)=> .inv Int (fun z=>Sp.b3I ms mm z) (fun z=>[(58,.int .i64 z),(7,.bool (Sp.anT ms mm z))]) (fun _=>[]) [] ([0,2,3,4,5,6,7,9,18,50,56,57,58,59,81]++[1000003]) (fun z=>ms.length-z.toNat)|_=> .unroll 0)|_=> .unroll 0)else .unroll 0
def m141_0 (x_1:Int×List (List C)×List (List C)):List (List C):=(Sp.mpV (Sp.dN x_1.2.1 7))
def m141_1 (x:Int×List (List C)×Int):List (List C):=(Sp.mkS (Sp.seY Sp.bxZ (Sp.seT Sp.bxR x.2.1)))
theorem v141 (l:List (List C)):WL hB l→True→True∧(InR .i64 (Sp.dN l 7)→InR .i64 (iAdd 1 (Sp.dN l 7))∧(pSh 64 (iAdd 1 (Sp.dN l 7))∧InR .i64 (iShl 1 (iAdd 1 (Sp.dN l 7))))∧True∧(InR .i64 (Sp.dN (Sp.dT l 7) 3)→(∃(x:Int×List (List C)×Int),Sp.b1I l x.1 x.2.1 x.2.2∧Sp.dN (Sp.dT l 7) 3=x.1∧Sp.dT (Sp.dT l 7) 3=x.2.1∧iShl 1 (iAdd 1 (Sp.dN l 7))=x.2.2)∧∀(x:Int×List (List C)×Int),Sp.b1I l x.1 x.2.1 x.2.2→InR .i64 x.1∧WL hB x.2.1∧InR .i64 x.2.2→Cn (bLt 0 x.1) (True∧(InR .i64 (Sp.dN x.2.1 7)→InR .i64 (iAdd 1 (Sp.dN x.2.1 7))∧(pSh 64 (iAdd 1 (Sp.dN x.2.1 7))∧InR .i64 (iShl 1 (iAdd 1 (Sp.dN x.2.1 7))))∧InR .i64 (iSub x.1 1)∧∃(y:Int×List (List C)×Int),Sp.b1I l y.1 y.2.1 y.2.2∧iSub x.1 1=y.1∧Sp.dT x.2.1 7=y.2.1∧iOr IntKind.i64 x.2.2 (iShl 1 (iAdd 1 (Sp.dN x.2.1 7)))=y.2.2∧nLt y.1.toNat x.1.toNat)) ((pLe 1 (iLen Sp.bxR)∧pLe (iLen Sp.bxR) 100)∧(WL hII (Sp.mkS (Sp.seY Sp.bxR x.2.1))→(pLe 1 (iLen Sp.bxZ)∧pLe (iLen Sp.bxZ) 100)∧(WL hII (m141_1 x)→True∧(InR .i64 (Sp.dN (Sp.seT Sp.bxZ (Sp.seT Sp.bxR x.2.1)) 3)→InR .i64 (iAdd 1 (Sp.dN (Sp.seT Sp.bxZ (Sp.seT Sp.bxR x.2.1)) 3))∧(∃(x_1:Int×List (List C)×List (List C)),Sp.b2I l x_1.1 x_1.2.1 x_1.2.2∧iAdd 1 (Sp.dN (Sp.seT Sp.bxZ (Sp.seT Sp.bxR x.2.1)) 3)=x_1.1∧Sp.dT (Sp.seT Sp.bxZ (Sp.seT Sp.bxR x.2.1)) 3=x_1.2.1∧Sm x.2.2∧Sm (Sp.mkS (Sp.seY Sp.bxR x.2.1))∧Sm (m141_1 x)∧[]=x_1.2.2)∧∀(x_1:Int×List (List C)×List (List C)),Sp.b2I l x_1.1 x_1.2.1 x_1.2.2→InR .i64 x_1.1∧WL hB x_1.2.1∧InR .i64 x.2.2∧WL hII (Sp.mkS (Sp.seY Sp.bxR x.2.1))∧WL hII (m141_1 x)∧WL [Sh.sl hI] x_1.2.2→Cn (bLt 0 x_1.1) (True∧(WL hI (m141_0 x_1)→pLe (iLen x_1.2.2) 9223372036854775807→(∃(x:Int),Sp.b3I x_1.2.2 (m141_0 x_1) x∧0=x∧false=Sp.anT x_1.2.2 (m141_0 x_1) x)∧∀(x_2:Int),Sp.b3I x_1.2.2 (m141_0 x_1) x_2→InR .i64 x_2→Cn (bLt x_2 (iLen x_1.2.2)) (pIn 0 (iLen x_1.2.2) x_2∧(WL hI (ql 0 (rGet x_1.2.2 x_2))→Cn (Sp.anT x_1.2.2 (m141_0 x_1) x_2) (InR .i64 (iAdd x_2 1)∧Sm x.1∧Sm x_1.1∧Sm (m141_0 x_1)∧Sm (iLen x_1.2.2)∧Sm [C.l (Sp.dT x_1.2.1 7)]∧Sm x.2.2∧Sm (Sp.mkS (Sp.seY Sp.bxR x.2.1))∧Sm (m141_1 x)∧Sm x_1.2.2∧∃(y:Int),Sp.b3I x_1.2.2 (m141_0 x_1) y∧iAdd x_2 1=y∧true=Sp.anT x_1.2.2 (m141_0 x_1) y∧nLt (x_1.2.2.length-y.toNat) (x_1.2.2.length-x_2.toNat)) (pLe (iLen (ql 0 (rGet x_1.2.2 x_2))) 9223372036854775807→pLe (iLen (m141_0 x_1)) 9223372036854775807→Cn (bEq (iLen (ql 0 (rGet x_1.2.2 x_2))) (iLen (m141_0 x_1))) (pIn 0 (iLen (ql 0 (rGet x_1.2.2 x_2))) 0∧(InR .i64 (qi 0 (rGet (ql 0 (rGet x_1.2.2 x_2)) 0))→pIn 0 (iLen (m141_0 x_1)) 0∧(InR .i64 (qi 0 (rGet (m141_0 x_1) 0))→InR .i64 (iAdd x_2 1)∧Sm x.1∧Sm x_1.1∧Sm (m141_0 x_1)∧Sm (iLen x_1.2.2)∧Sm [C.l (Sp.dT x_1.2.1 7)]∧Sm x.2.2∧Sm (Sp.mkS (Sp.seY Sp.bxR x.2.1))∧Sm (m141_1 x)∧Sm x_1.2.2∧∃(y:Int),Sp.b3I x_1.2.2 (m141_0 x_1) y∧iAdd x_2 1=y∧bEq (qi 0 (rGet (ql 0 (rGet x_1.2.2 x_2)) 0)) (qi 0 (rGet (m141_0 x_1) 0))=Sp.anT x_1.2.2 (m141_0 x_1) y∧nLt (x_1.2.2.length-y.toNat) (x_1.2.2.length-x_2.toNat)))) (InR .i64 (iAdd x_2 1)∧Sm x.1∧Sm x_1.1∧Sm (m141_0 x_1)∧Sm (iLen x_1.2.2)∧Sm [C.l (Sp.dT x_1.2.1 7)]∧Sm x.2.2∧Sm (Sp.mkS (Sp.seY Sp.bxR x.2.1))∧Sm (m141_1 x)∧Sm x_1.2.2∧∃(y:Int),Sp.b3I x_1.2.2 (m141_0 x_1) y∧iAdd x_2 1=y∧false=Sp.anT x_1.2.2 (m141_0 x_1) y∧nLt (x_1.2.2.length-y.toNat) (x_1.2.2.length-x_2.toNat))))) (True∧Cn (bNot (Sp.anT x_1.2.2 (m141_0 x_1) x_2)) (pRoom 24 (iLen (x_1.2.2++[[C.l (m141_0 x_1)]]))∧InR .i64 (iSub x_1.1 1)∧Sm x.1∧∃(y:Int×List (List C)×List (List C)),Sp.b2I l y.1 y.2.1 y.2.2∧iSub x_1.1 1=y.1∧Sp.dT x_1.2.1 7=y.2.1∧Sm x.2.2∧Sm (Sp.mkS (Sp.seY Sp.bxR x.2.1))∧Sm (m141_1 x)∧x_1.2.2++[[C.l (m141_0 x_1)]]=y.2.2∧nLt y.1.toNat x_1.1.toNat) (InR .i64 (iSub x_1.1 1)∧Sm x.1∧∃(y:Int×List (List C)×List (List C)),Sp.b2I l y.1 y.2.1 y.2.2∧iSub x_1.1 1=y.1∧Sp.dT x_1.2.1 7=y.2.1∧Sm x.2.2∧Sm (Sp.mkS (Sp.seY Sp.bxR x.2.1))∧Sm (m141_1 x)∧x_1.2.2=y.2.2∧nLt y.1.toNat x_1.1.toNat)))) (x_1.2.1=Sp.bxT l∧x.2.2=qi 0 (Sp.bxV l)∧Sp.mkS (Sp.seY Sp.bxR x.2.1)=ql 1 (Sp.bxV l)∧x_1.2.2=ql 2 (Sp.bxV l)∧Sp.mkS (Sp.seY Sp.bxZ (Sp.seT Sp.bxR x.2.1))=ql 3 (Sp.bxV l)))))))):=by
 intro hw hp
 delta m141_0 m141_1
 have n1:=Sp.dN_bd (l:=l) (n:=7) (by omega)
 have n2:=Sp.dN_bd (l:=Sp.dT l 7) (n:=3) (by omega)
 have s1:=Sp.bx_sh n1.1 n1.2
 have lr:(Sp.bxR.length:Int)=5:=rfl
 have lz:(Sp.bxZ.length:Int)=4:=rfl
 simp only[D,E]
 refine fun _=>⟨s1.1,s1.2,fun _=>⟨⟨(Sp.dN (Sp.dT l 7) 3,Sp.dT (Sp.dT l 7) 3,_),⟨⟨n2.1,by simp only; omega⟩,rfl⟩,rfl,rfl,rfl⟩,?_⟩⟩
 rintro⟨n,k,v⟩ ⟨⟨a0,a1⟩,a2⟩ _
 simp only at a0 a1 a2 ⊢
 have n3:=Sp.dN_bd (l:=k) (n:=7) (by omega)
 have s2:=Sp.bx_sh n3.1 n3.2
 refine⟨fun h _=>⟨s2.1,s2.2,by simp only[InR]; omega,(n-1,_,_),⟨⟨by simp only; omega,by simp only; omega⟩,?_⟩,rfl,rfl,rfl,by simp only; omega⟩,fun h=>⟨by omega,fun _=>⟨by omega,fun _ _=> ?_⟩⟩⟩
 · rw[←a2,show n.toNat=(n-1).toNat+1 by omega,Sp.bxK]; rfl
 rw[show n.toNat=0 by omega]at a2
 have e1:Sp.bx1 l=(k,v):=a2.symm
 have e2:Sp.bx2 l=Sp.seT Sp.bxR k:=by unfold Sp.bx2; rw[e1]
 have e3:Sp.bx3 l=Sp.seT Sp.bxZ (Sp.seT Sp.bxR k):=by unfold Sp.bx3; rw[e2]
 rw[←e2,←show Sp.bx3 l=Sp.seT Sp.bxZ (Sp.bx2 l)from rfl]
 have n4:=Sp.dN_bd (l:=Sp.bx3 l) (n:=3) (by omega)
 refine⟨by simp only[InR]; omega,⟨(1+Sp.dN (Sp.bx3 l) 3,Sp.dT (Sp.bx3 l) 3,[]),⟨⟨by simp only; omega,by simp only; omega,by simp only[List.length_nil]; omega⟩,rfl,rfl⟩,rfl,rfl,rfl⟩,?_⟩
 rintro⟨c,g,ms⟩ ⟨⟨c0,c1,c2⟩,c3,c4⟩ _
 simp only at c0 c1 c2 c3 c4 ⊢
 have n5:=Sp.dN_bd (l:=g) (n:=7) (by omega)
 have ml:=Sp.mpV_len n5.1 n5.2
 refine⟨fun h _ _=>⟨⟨0,⟨Int.le_refl _,by omega,trivial⟩,rfl,rfl⟩,?_⟩,fun h=> ?_⟩
 · intro j ⟨j0,j1,_⟩ _
   have st:j<(ms.length:Int)→∀ {b:Bool},b=(Sp.anT ms (Sp.mpV (Sp.dN g 7)) j||Sp.bxQ (Sp.mpV (Sp.dN g 7)) (rGet ms j))→∃y,Sp.b3I ms (Sp.mpV (Sp.dN g 7)) y∧j+1=y∧b=Sp.anT ms (Sp.mpV (Sp.dN g 7)) y∧ms.length-y.toNat<ms.length-j.toNat:=fun hl b e=>⟨j+1,⟨by omega,by omega,trivial⟩,rfl,by rw[Sp.an_s j0 hl]; exact e,by omega⟩
   have q:Sp.bxQ (Sp.mpV (Sp.dN g 7)) (rGet ms j)=(decide ((ql 0 (rGet ms j)).length=(Sp.mpV (Sp.dN g 7)).length)&&decide (qi 0 (rGet (ql 0 (rGet ms j)) 0)=qi 0 (rGet (Sp.mpV (Sp.dN g 7)) 0))):=rfl
   have ix:j<(ms.length:Int)→InR .i64 (j+1):=fun _=>by simp only[InR]; omega
   refine⟨fun hl=>⟨⟨j0,hl⟩,fun _=>⟨fun ha=>⟨ix hl,st hl (by rw[ha]; rfl)⟩,fun ha _ _=>⟨fun hb=>⟨⟨by omega,by omega⟩,fun _=>⟨⟨by omega,by omega⟩,fun _=>⟨ix hl,st hl ?_⟩⟩⟩,fun hb=>⟨ix hl,st hl ?_⟩⟩⟩⟩,fun hl=> ?_⟩
   · rw[ha,q,decide_eq_true (show(ql 0 (rGet ms j)).length=(Sp.mpV (Sp.dN g 7)).length by omega)]; rfl
   · rw[ha,q,decide_eq_false (show¬(ql 0 (rGet ms j)).length=(Sp.mpV (Sp.dN g 7)).length by omega)]; rfl
   · rw[Sp.an_e hl]
     rw[show c.toNat=(c-1).toNat+1 by omega,Sp.bxM]at c4
     refine⟨fun hb=>⟨by rw[List.length_append,List.length_singleton]; omega,by simp only[InR]; omega,(c-1,Sp.dT g 7,ms++[[C.l (Sp.mpV (Sp.dN g 7))]]),⟨⟨by simp only; omega,by simp only; omega,by simp; omega⟩,by rw[List.all_append,c3,List.all_cons,List.all_nil,decide_eq_true (show 1≤(ql 0 [C.l (Sp.mpV (Sp.dN g 7))]).length from ml.1)]; rfl,?_⟩,rfl,rfl,rfl,by simp only; omega⟩,fun hb=>⟨by simp only[InR]; omega,(c-1,Sp.dT g 7,ms),⟨⟨by simp only; omega,by simp only; omega,by simp only; omega⟩,c3,?_⟩,rfl,rfl,rfl,by simp only; omega⟩⟩
     · simp only; rw[←c4,if_neg (by simp[hb])]
     · simp only; rw[←c4,if_pos hb]
 · rw[show c.toNat=0 by omega]at c4
   have e4:Sp.bx4 l=(g,ms):=c4.symm
   unfold Sp.bxT Sp.bxV
   rw[e4,e1]
   exact⟨rfl,rfl,rfl,rfl,rfl⟩
def r141:Cr PR:=KB [r40,r205,r81] 141 8 {ps:=[],rs:=[(true,hX)],pre:=fun _=>True,out:=fun a=>[[.l (Sp.bxT (L a 0 0))],rb [0,3,3,3] (Sp.bxV (L a 0 0))],bx:=some (117,[.sl hB])} (fun a=>A141 (L a 0 0)) fun a=>Y (v141 (L a 0 0))
end Go.Sx

set_option linter.unusedVariables false
set_option linter.unusedSimpArgs false
set_option maxRecDepth 100000
set_option maxHeartbeats 4000000
namespace Go
open Go.Sx
def Sp.bsL:Nat→List (List C)→List (List C)→List (List C)×List (List C)
 |0,l,ys=>(l,ys)
 |n+1,l,ys=>Sp.bsL n (Sp.bxT l) (ys++[Sp.bxV l])
def Sp.bs (l:List (List C)) (a b:Int):List (List C)×List (List C):=Sp.bsL (a+Sp.dN l (b-a+1)).toNat (Sp.dT l (b-a+1)) []
def Sp.bsI (l:List (List C)) (a b n:Int) (k ys:List (List C)):Prop:=(0≤n∧(ys.length:Int)+n≤20)∧Sp.bsL n.toNat k ys=Sp.bs l a b
def Sp.d1 (l:List (List C)):List (List C):=Sp.dT l 256
def Sp.d2 (l:List (List C)):List (List C):=Sp.dT (Sp.d1 l) 3
def Sp.d3 (l:List (List C)):List (List C):=Sp.dT (Sp.d2 l) 4
def Sp.d4 (l:List (List C)):List (List C):=Sp.dT (Sp.d3 l) 200
def Sp.d5 (l:List (List C)):List (List C):=Sp.dT (Sp.d4 l) 4
def Sp.d6 (l:List (List C)):List (List C):=Sp.dT (Sp.d5 l) 4
def Sp.nmL:List (List C):=[[.s (ByteArray.mk (Array.mk [100,97,99]))],[.s (ByteArray.mk (Array.mk [104,100,109,105,45,49]))],[.s (ByteArray.mk (Array.mk [77,105,99,46,50]))]]
def Sp.drL:List (List C):=[[.i 0],[.i 66],[.i 200],[.i 7]]
def Sp.bsT (l:List (List C)) (a b:Int):List (List C):=(Sp.bs l a b).1
def Sp.bsY (l:List (List C)) (a b:Int):List (List C):=(Sp.bs l a b).2
def Sp.dsT (l:List (List C)):List (List C):=Sp.bsT (Sp.d6 l) 1 2
def Sp.dsM (l:List (List C)) (r:Int):List C:=[.i (iWrap .u64 (Sp.dN l 256)),.s (qs 0 (rGet Sp.nmL (Sp.dN (Sp.d1 l) 3))),.i r,.i (Sp.dN (Sp.d2 l) 4),.i (Sp.dN (Sp.d3 l) 200),.i (qi 0 (rGet Sp.drL (Sp.dN (Sp.d4 l) 4))),.i (Sp.dN (Sp.d5 l) 4),.l (Sp.bsY (Sp.d6 l) 1 2)]
end Go
namespace Go.Sx
def A80 (l:List (List C)) (a:Int) (b:Int):FuncId→Nat→LoopAnn:=fun _ ii=>bif Nat.beq ii 3 then .ghost 7 hX 110 (.inv (Int×List (List C)×List (List C)) (fun z=>Sp.bsI l a b z.1 z.2.1 z.2.2) (fun z=>[(8,.int .i64 z.1),(7,.own 1 0)]) (fun z=>[(0,.box [.sl [.int .u8] z.2.1] 117),(1,.row hX 110 0 z.2.2)]) [0,1] [0,1,2,6,7,8,18] (fun z=>z.1.toNat))else .unroll 0
theorem v80 (l:List (List C)) (a:Int) (b:Int):WL hB l∧InR .i64 a∧InR .i64 b→pLe 0 a∧pLe a b∧pLe b 10→InR .i64 (iSub b a)∧InR .i64 (iAdd (iSub b a) 1)∧True∧(InR .i64 (Sp.dN l (iAdd (iSub b a) 1))→InR .i64 (iAdd a (Sp.dN l (iAdd (iSub b a) 1)))∧(∃(x:Int×List (List C)×List (List C)),Sp.bsI l a b x.1 x.2.1 x.2.2∧iAdd a (Sp.dN l (iAdd (iSub b a) 1))=x.1∧Sp.dT l (iAdd (iSub b a) 1)=x.2.1∧[]=x.2.2)∧∀(x:Int×List (List C)×List (List C)),Sp.bsI l a b x.1 x.2.1 x.2.2→InR .i64 x.1∧WL hB x.2.1∧WL hX x.2.2→Cn (bLt 0 x.1) (True∧(InR .i64 (qi 0 (Sp.bxV x.2.1))∧WL hII (ql 1 (Sp.bxV x.2.1))∧WL [Sh.sl hI] (ql 2 (Sp.bxV x.2.1))∧WL hII (ql 3 (Sp.bxV x.2.1))→pRoom 80 (iLen (x.2.2++[sg 0 [0,3,3,3] (Sp.bxV x.2.1)]))∧InR .i64 (iSub x.1 1)∧Sm a∧Sm b∧∃(y:Int×List (List C)×List (List C)),Sp.bsI l a b y.1 y.2.1 y.2.2∧iSub x.1 1=y.1∧Sp.bxT x.2.1=y.2.1∧x.2.2++[sg 0 [0,3,3,3] (Sp.bxV x.2.1)]=y.2.2∧nLt y.1.toNat x.1.toNat)) (x.2.1=Sp.bsT l a b∧x.2.2=Sp.bsY l a b)):=by
 intro hw hp
 simp only[D,E]at hp ⊢
 have d:=Sp.dN_bd (l:=l) (n:=b-a+1) (by omega)
 refine⟨by simp only[InR]; omega,by simp only[InR]; omega,fun _=>⟨by simp only[InR]; omega,⟨(a+Sp.dN l (b-a+1),Sp.dT l (b-a+1),[]),⟨⟨by simp only; omega,by simp only[List.length_nil]; omega⟩,rfl⟩,rfl,rfl,rfl⟩,?_⟩⟩
 rintro⟨n,k,ys⟩ ⟨⟨n0,n1⟩,n2⟩ _
 simp only at n0 n1 n2 ⊢
 refine⟨fun h _=>⟨by simp; omega,by simp only[InR]; omega,(n-1,Sp.bxT k,ys++[Sp.bxV k]),⟨⟨by simp only; omega,by simp; omega⟩,?_⟩,rfl,rfl,rfl,by simp only; omega⟩,fun h=> ?_⟩
 · rw[←n2,show n.toNat=(n-1).toNat+1 by omega,Sp.bsL]
 · rw[show n.toNat=0 by omega]at n2
   have e:Sp.bs l a b=(k,ys):=n2.symm
   unfold Sp.bsT Sp.bsY
   rw[e]; exact⟨rfl,rfl⟩
def r80:Cr PR:=KB [r40,r141] 80 8 {ps:=[(false,hI),(false,hI)],rs:=[(false,[.sl hX])],pre:=fun a=>pLe 0 (I a 1 0)∧(pLe (I a 1 0) (I a 2 0)∧pLe (I a 2 0) 10),out:=fun a=>[[.l (Sp.bsT (L a 0 0) (I a 1 0) (I a 2 0))],[.l (Sp.bsY (L a 0 0) (I a 1 0) (I a 2 0))]],bx:=some (117,[.sl hB])} (fun a=>A80 (L a 0 0) (I a 1 0) (I a 2 0)) fun a=>Y (v80 (L a 0 0) (I a 1 0) (I a 2 0))
end Go.Sx
namespace Go.Sx
def m39_0 (l:List (List C)):List (List C):=(Sp.dT (Sp.dT (Sp.dT (Sp.dT l 256) 3) 4) 200)
theorem v39 (l:List (List C)) (r:Int):WL hB l∧InR .i64 r→True→True∧(InR .i64 (Sp.dN l 256)→True∧(InR .i64 (Sp.dN (Sp.dT l 256) 3)→pIn 0 (iLen Sp.nmL) (Sp.dN (Sp.dT l 256) 3)∧(StrOk (qs 0 (rGet Sp.nmL (Sp.dN (Sp.dT l 256) 3)))→True∧(InR .i64 (Sp.dN (Sp.dT (Sp.dT l 256) 3) 4)→True∧(InR .i64 (Sp.dN (Sp.dT (Sp.dT (Sp.dT l 256) 3) 4) 200)→True∧(InR .i64 (Sp.dN (m39_0 l) 4)→pIn 0 (iLen Sp.drL) (Sp.dN (m39_0 l) 4)∧(InR .i64 (qi 0 (rGet Sp.drL (Sp.dN (m39_0 l) 4)))→True∧(InR .i64 (Sp.dN (Sp.dT (m39_0 l) 4) 4)→(pLe 0 1∧pLe 1 2∧pLe 2 10)∧(WL hX (Sp.bsY (Sp.dT (Sp.dT (m39_0 l) 4) 4) 1 2)→Sp.bsT (Sp.dT (Sp.dT (m39_0 l) 4) 4) 1 2=Sp.dsT l∧[C.i (iWrap .u64 (Sp.dN l 256)),C.s (qs 0 (rGet Sp.nmL (Sp.dN (Sp.dT l 256) 3))),C.i r,C.i (Sp.dN (Sp.dT (Sp.dT l 256) 3) 4),C.i (Sp.dN (Sp.dT (Sp.dT (Sp.dT l 256) 3) 4) 200),C.i (qi 0 (rGet Sp.drL (Sp.dN (m39_0 l) 4))),C.i (Sp.dN (Sp.dT (m39_0 l) 4) 4),C.l (Sp.bsY (Sp.dT (Sp.dT (m39_0 l) 4) 4) 1 2)]=sg 0 [0,2,0,0,0,0,0,3] (Sp.dsM l r)))))))))):=by
 intro hw hp
 delta m39_0
 have a:=Sp.dN_bd (l:=Sp.d1 l) (n:=3) (by omega)
 have b:=Sp.dN_bd (l:=Sp.d4 l) (n:=4) (by omega)
 simp only[D,E]
 exact fun _ _=>⟨a,fun _ _ _ _=>⟨b,fun _ _=>⟨⟨by omega,by omega,by omega⟩,fun _=>⟨rfl,rfl⟩⟩⟩⟩
def r39:Cr PR:=KB [r40,r80,(mark 1000145),(mark 1000028)] 39 8 {ps:=[(false,hI)],rs:=[(true,hD)],pre:=fun _=>True,out:=fun a=>[[.l (Sp.dsT (L a 0 0))],rb [0,2,0,0,0,0,0,3] (Sp.dsM (L a 0 0) (I a 1 0))],bx:=some (117,[.sl hB])} U fun a=>Y (v39 (L a 0 0) (I a 1 0))
end Go.Sx

set_option linter.unusedVariables false
set_option linter.unusedSimpArgs false
set_option maxRecDepth 100000
set_option maxHeartbeats 4000000
namespace Go
open Go.Sx
def Sp.paB:List (List C):=[[.i 4,.l [[.i 48000,.i 48000]],.l [[.l [[.i 3]]]],.l [[.i 64,.i 64]]]]
def Sp.paX:List C:=sga 0 [0,2,0,0,0,0,0] (Sp.dsM [] 1) [.l Sp.paB]
def Sp.paV:List C:=[.i 0,.s (ByteArray.mk (Array.mk [100,97,99])),.i 1,.i 0,.i 0,.i 0,.i 0,.l Sp.paB,.i 2,.i 48000,.l [[.i 3]],.i 64,.i 48000,.i 16,.l [[.i 0,.i 1,.i 1]],.b false,.i 0,.i 37,.i 29,.i 4,.i 16,.i 0,.i 1,.i 1,.i 1,.i 0,.i 0,.i 0,.l (Sp.zrs 13),.i 0,.i 0]
end Go
namespace Go
open Go.Sx
theorem Sp.pa_e:Sp.opE Sp.paX 2 48000 [[.i 3]] 64 [[.i 0,.i 1,.i 1]] 48000 16=0:=by kernel_rfl
theorem Sp.pa_v:Sp.opV Sp.paX 2 48000 [[.i 3]] 64 [[.i 0,.i 1,.i 1]] 48000 16=Sp.paV:=by kernel_rfl
end Go
namespace Go.Sx
theorem v12:geB none (some (min 0 300)) 0∧True∧(WD hD (Sp.dsM [] 1)→True∧(WD hV (Sp.opV Sp.paX 2 48000 [[C.i 3]] 64 [[C.i 0,C.i 1,C.i 1]] 48000 16)∧InR .i64 (Sp.opE Sp.paX 2 48000 [[C.i 3]] 64 [[C.i 0,C.i 1,C.i 1]] 48000 16)→sg 0 [0,2,0,0,0,0,0,3,0,0,3,0,0,0,3,1,0,0,0,0,0,0,0,0,0,0,0,0,3,0,0] (Sp.opV Sp.paX 2 48000 [[C.i 3]] 64 [[C.i 0,C.i 1,C.i 1]] 48000 16)=sg 0 [0,2,0,0,0,0,0,3,0,0,3,0,0,0,3,1,0,0,0,0,0,0,0,0,0,0,0,0,3,0,0] Sp.paV∧Sp.opE Sp.paX 2 48000 [[C.i 3]] 64 [[C.i 0,C.i 1,C.i 1]] 48000 16=0)):=by
 exact⟨⟨by decide,by decide⟩,trivial,fun _=>⟨trivial,fun _=>by rw[Sp.pa_e,Sp.pa_v]; exact⟨rfl,rfl⟩⟩⟩
def r12:Cr PR:=K0 [r39,r48] 12 8 {ps:=[],rs:=[(true,hV),(false,hI)],pre:=fun _=>True,out:=fun _=>[rb [0,2,0,0,0,0,0,3,0,0,3,0,0,0,3,1,0,0,0,0,0,0,0,0,0,0,0,0,3,0,0] (Sp.paV),[.i 0]]} U fun a=>Y (v12)
end Go.Sx
namespace Go.Sx
theorem cT {b:Bool} {X Y:Prop} (h:b=true) (x:X):Cn b X Y:=Cn_iff.2 ⟨fun _=>x,fun h'=>by rw[h]at h'; cases h'⟩
end Go.Sx
namespace Go.Sx
def m11_0:List (List C):=(Sp.pyD (Sp.stV Sp.paV 16) 1 (Sp.wv 1 1 16) 16 32)
def m11_1:List C:=(Sp.pyV (Sp.stV Sp.paV 16) 1 (Sp.wv 1 1 16) 16 32)
theorem v11:True∧(WD hV Sp.paV∧InR .i64 0→True∧(WD hV (Sp.stV Sp.paV 16)∧InR .i64 (Sp.stE Sp.paV 16)→True∧(InR .i64 (Sp.duV (Sp.stV Sp.paV 16) 16 32)∧InR .i64 (Sp.duE (Sp.stV Sp.paV 16) 16 32)→(Sm (0:Int)∧pLe 0 1∧pLe 1 100∧pLe 1 12∧pLe 16 70000)∧(InR .i64 1∧WL hW (Sp.wv 1 1 16)→True∧(InR .i64 (Sp.pyC (Sp.stV Sp.paV 16) 1 (Sp.wv 1 1 16) 16 32)∧WL hW m11_0∧InR .i64 (Sp.pyL (Sp.stV Sp.paV 16) 1 (Sp.wv 1 1 16) 16 32)∧InR .i64 (Sp.pyM (Sp.stV Sp.paV 16) 1 (Sp.wv 1 1 16) 16 32)∧WD hV m11_1∧InR .i64 (Sp.pyE (Sp.stV Sp.paV 16) 1 (Sp.wv 1 1 16) 16 32)→Cn (bEq 0 0) (Cn (bEq (Sp.stE Sp.paV 16) 0) (Cn (bEq (Sp.duE (Sp.stV Sp.paV 16) 16 32) 0) (Cn (bEq (Sp.pyE (Sp.stV Sp.paV 16) 1 (Sp.wv 1 1 16) 16 32) 0) (Cn (bEq (Sp.duV (Sp.stV Sp.paV 16) 16 32) 16) (pLe (iLen m11_0) 9223372036854775807→Cn (bEq (iLen m11_0) 16) (pIn 0 (iLen m11_0) 12∧(InR .i32 (qi 0 (rGet m11_0 12))→Cn (bEq (qi 0 (rGet m11_0 12)) 0) (pIn 0 (iLen m11_0) 13∧(InR .i32 (qi 0 (rGet m11_0 13))→pIn 0 (iLen (Sp.wv 1 1 16)) 0∧(InR .i32 (qi 0 (rGet (Sp.wv 1 1 16) 0))→Cn (bEq (qi 0 (rGet m11_0 13)) (qi 0 (rGet (Sp.wv 1 1 16) 0))) (Cn (bEq (Sp.pyL (Sp.stV Sp.paV 16) 1 (Sp.wv 1 1 16) 16 32) 0) (Cn (bEq (Sp.pyM (Sp.stV Sp.paV 16) 1 (Sp.wv 1 1 16) 16 32) 0) (True∧Cn (Sp.dvV m11_1) (True∧(InR .i64 (Sp.bgF (sg 17 [0,0,0,0,0,0,0,0,0,0,0,3,0,0] m11_1))→True∧(InR .i64 (Sp.bgF (sg 17 [0,0,0,0,0,0,0,0,0,0,0,3,0,0] (Sp.stV Sp.paV 16)))→bEq (Sp.bgF (sg 17 [0,0,0,0,0,0,0,0,0,0,0,3,0,0] m11_1)) (Sp.bgF (sg 17 [0,0,0,0,0,0,0,0,0,0,0,3,0,0] (Sp.stV Sp.paV 16)))=true))) (false=true)) (false=true)) (false=true)) (false=true)))) (false=true))) (false=true)) (false=true)) (false=true)) (false=true)) (false=true)) (false=true)))))):=by
 delta m11_0 m11_1
 have l1:iLen (Sp.pyD (Sp.stV Sp.paV 16) 1 (Sp.wv 1 1 16) 16 32)=16:=by kernel_rfl
 have l2:iLen (Sp.wv 1 1 16)=16:=by kernel_rfl
 refine⟨trivial,fun _=>⟨trivial,fun _=>⟨trivial,fun _=>⟨⟨Sm_iff.2 trivial,by decide,by decide,by decide,by decide⟩,fun _=>⟨trivial,fun _=>cT rfl (cT (by kernel_rfl) (cT (by kernel_rfl) (cT (by kernel_rfl) (cT (by kernel_rfl) fun _=>cT (by kernel_rfl) ⟨?_,fun _=>cT (by kernel_rfl) ⟨?_,fun _=>⟨?_,fun _=>cT (by kernel_rfl) (cT (by kernel_rfl) (cT (by kernel_rfl) ⟨trivial,cT (by kernel_rfl) ⟨trivial,fun _=>⟨trivial,fun _=>by kernel_rfl⟩⟩⟩))⟩⟩⟩))))⟩⟩⟩⟩⟩
 · rw[l1]; exact⟨by decide,by decide⟩
 · rw[l1]; exact⟨by decide,by decide⟩
 · rw[l2]; exact⟨by decide,by decide⟩
def r11:Cr PR:=K0 [r12,r13,r24,r23,r18,r25,r15] 11 8 {ps:=[],rs:=[(false,[.bool])],pre:=fun _=>True,out:=fun _=>[[.b true]]} U fun a=>Y (v11)
end Go.Sx

set_option linter.unusedVariables false
set_option linter.unusedSimpArgs false
set_option maxRecDepth 100000
set_option maxHeartbeats 4000000
namespace Go
open Go.Sx
end Go

set_option linter.unusedVariables false
set_option linter.unusedSimpArgs false
set_option maxRecDepth 100000
set_option maxHeartbeats 4000000
namespace Go
open Go.Sx
theorem Sp.bn_v {ch n d t e g m cap fill:Int} (h:Sp.bnE ch n d t e g m cap fill=0):Sp.bgV (Sp.bn ch n d t e g m cap fill)=true∧Sp.rsW (Sp.br (Sp.bn ch n d t e g m cap fill))=fill:=by
 have b:=Sp.bn_ok h
 have r:=Sp.rsV_of b.2.2.2.2.2.2.1
 have z:=Sp.blk_zrs (ch:=ch) (n:=fill) (by omega) (by omega) (by omega) (by omega)
 have rv:Sp.rsV (Sp.br (Sp.bn ch n d t e g m cap fill))=true:=by
  show(Sp.phV (Sp.rp (Sp.rn ch n d))&&Sp.blk ch (Sp.zrs (ch*fill)))=true
  rw[r.1,z.1]; rfl
 have w:Sp.rsW (Sp.br (Sp.bn ch n d t e g m cap fill))=fill:=by rw[Sp.rsW_of rv]; exact z.2
 have c:1≤cap:=by
  unfold Sp.bnE at h
  split at h
  · cases h
  · omega
 refine⟨?_,w⟩
 unfold Sp.bgV
 rw[rv,w]
 simp only[Bool.and_eq_true,decide_eq_true_eq]
 exact⟨trivial,b.2.2.2.2.2.2.2,c,by show cap≤_; omega,by show _≤cap; omega,by show(0:Int)≤0; decide,by show(0:Int)≤0; decide⟩
theorem Sp.op_v {x:List C} {n r:Int} {m:List (List C)} {z:Int} {k:List (List C)} {q p:Int} (h:Sp.opE x n r m z k q p=0):
 Sp.pd (Sp.opU x n r m z k q p)∧Sp.oE (Sp.opU x n r m z k q p)=0∧Sp.oBE (Sp.opU x n r m z k q p)=0∧Sp.opR x n r m z k q p=Sp.brd (Sp.opU x n r m z k q p) (Sp.oBV (Sp.opU x n r m z k q p))∧Sp.dvV (Sp.opR x n r m z k q p)=true:=by
 have o:Sp.opR x n r m z k q p=Sp.brd (Sp.opU x n r m z k q p) (Sp.oBV (Sp.opU x n r m z k q p)):=if_pos h
 have h':Sp.oE0 (Sp.opU x n r m z k q p)=0:=h
 have ed:Sp.dst (Sp.opU x n r m z k q p)=decide (8000≤q∧q≤192000∧16≤p∧p≤8192):=rfl
 unfold Sp.oE0 at h'
 split at h'
 · cases h'
 rename_i a
 split at h'
 · cases h'
 rename_i a2
 split at h'
 · cases h'
 split at h'
 · rename_i a4; exact(a4 h').elim
 rename_i a4
 have ds:Sp.dsV x=true:=by
  cases hv:Sp.dsV x
  · exact(a (.inl hv)).elim
  · rfl
 have cv:Sp.cval k=true:=by
  cases hv:Sp.cval k
  · exact(a (.inr (.inl hv))).elim
  · rfl
 have dt:Sp.dst (Sp.opU x n r m z k q p)=true:=by
  cases hv:Sp.dst (Sp.opU x n r m z k q p)
  · exact(a (.inr (.inr hv))).elim
  · rfl
 have of:Sp.ofH (ql 7 x) n r m z=true:=by
  cases hv:Sp.ofH (ql 7 x) n r m z
  · exact(a2 hv).elim
  · rfl
 have pd:Sp.pd (Sp.opU x n r m z k q p):=⟨ds,of,of_decide_eq_true (ed.symm.trans dt),cv⟩
 refine⟨pd,Classical.not_not.1 a4,h',o,?_⟩
 have bv:=Sp.bn_v h'
 have bo:Sp.oBV (Sp.opU x n r m z k q p)=_:=(Sp.bn_ok h').1
 rw[o]
 have e:Sp.dvV (Sp.brd (Sp.opU x n r m z k q p) (Sp.oBV (Sp.opU x n r m z k q p)))=((Sp.dsV x&&(Sp.ofH (ql 7 x) n r m z&&(Sp.dst (Sp.opU x n r m z k q p)&&Sp.cval k)))&&(decide ((0:Int)≤0∧(0:Int)≤1099511627776)&&(Sp.bgV (Sp.dg (Sp.brd (Sp.opU x n r m z k q p) (Sp.oBV (Sp.opU x n r m z k q p))))&&decide (qi 5 (Sp.oBV (Sp.opU x n r m z k q p))=(m.length:Int)∧qi 6 (Sp.oBV (Sp.opU x n r m z k q p))=Sp.bN (Sp.opU x n r m z k q p)∧qi 7 (Sp.oBV (Sp.opU x n r m z k q p))=Sp.bD (Sp.opU x n r m z k q p))))):=by kernel_rfl
 have g:Sp.bgV (Sp.dg (Sp.brd (Sp.opU x n r m z k q p) (Sp.oBV (Sp.opU x n r m z k q p))))=true:=by rw[bo]; exact bv.1
 rw[e,g,ds,of,dt,cv,bo]
 exact decide_eq_true ⟨rfl,rfl,rfl⟩
theorem Sp.dv_run {d:List C} {t:Int} (h:Sp.dvV d=true) (h0:0≤t) (h1:t≤1099511627776):Sp.dvV (Sp.run d t)=true:=by
 have v:=Sp.dvV_of h
 have e:Sp.dvV (Sp.run d t)=((Sp.dsV d&&(Sp.ofH (ql 7 d) (qi 8 d) (qi 9 d) (ql 10 d) (qi 11 d)&&(Sp.dst d&&Sp.cval (ql 14 d))))&&(decide (0≤t∧t≤1099511627776)&&(Sp.bgV (Sp.dg d)&&decide (qi 22 d=((ql 10 d).length:Int)∧qi 23 d=Sp.bN d∧qi 24 d=Sp.bD d)))):=by kernel_rfl
 have ds:Sp.dst d=true:=decide_eq_true v.1.2.2.1
 rw[e,v.1.1,v.1.2.1,ds,v.1.2.2.2,v.2.2.1,decide_eq_true ⟨h0,h1⟩,decide_eq_true v.2.2.2]; rfl
theorem Sp.st_in {d:List C} {t:Int} (h:Sp.stE d t=0):Sp.dvV d=true∧0≤t∧t≤1099511627776∧qb 15 d=false∧Sp.stR d t=Sp.run d t∧Sp.dvV (Sp.run d t)=true:=by
 have h':=h
 unfold Sp.stE at h'
 split at h'
 · cases h'
 rename_i a
 split at h'
 · cases h'
 rename_i b
 split at h'
 · cases h'
 split at h'
 · cases h'
 rename_i c
 have v:Sp.dvV d=true:=by
  cases hv:Sp.dvV d
  · exact(a hv).elim
  · rfl
 refine⟨v,by omega,by omega,?_,if_pos h,Sp.dv_run v (by omega) (by omega)⟩
 cases hb:qb 15 d
 · rfl
 · exact(c hb).elim
end Go

