import Derived.Test.YthflbgeplmecoaaGreatSxUse
import Derived.Test.YthflbgeplmecoaaGreatM15
set_option linter.unusedVariables false
set_option linter.unusedSimpArgs false
set_option maxRecDepth 100000
set_option maxHeartbeats 4000000
namespace Go
open Go.Sx
def Sp.br (b:List C):List C:=sg 5 [0,0,0,0,0,0,3] b
def Sp.bp (b:List C):List C:=sg 6 [0,0,0,0,0] b
def Sp.bgV (b:List C):Bool:=Sp.rsV (Sp.br b)&&(Sp.valid (qi 1 b) (qi 2 b) (qi 3 b) (qi 4 b)&&decide (1≤qi 0 b∧qi 0 b≤65536∧Sp.rsW (Sp.br b)≤qi 0 b∧0≤qi 12 b∧0≤qi 13 b))
abbrev Sp.z14 (x:List C):Prop:=([C.i 0,C.i 0,C.i 0,C.i 0,C.i 0,C.i 0,C.i 0,C.i 0,C.i 0,C.i 0,C.i 0,C.l [],C.i 0,C.i 0]:List C)=sg 0 [0,0,0,0,0,0,0,0,0,0,0,3,0,0] x
def Sp.bgF (b:List C):Int:=if Sp.bgV b=true then Sp.rsW (Sp.br b)else 0
def Sp.bn (ch n d t e g m cap fill:Int):List C:=[.i cap,.i t,.i e,.i g,.i m,.i ch,.i n,.i d,.i 0,.i 0,.i 0,.l (Sp.zrs (ch*fill)),.i 0,.i 0]
def Sp.bnE (ch n d t e g m cap fill:Int):Int:=if cap<1∨65536<cap∨fill<0∨cap<fill then 2 else if Sp.rsV (Sp.rn ch n d)=false∨Sp.valid t e g m=false then 1 else 0
def Sp.bnV (ch n d t e g m cap fill:Int):List C:=if Sp.bnE ch n d t e g m cap fill=0 then Sp.bn ch n d t e g m cap fill else[]
def Sp.puE (b:List C) (ch:Int) (da:List (List C)):Int:=if Sp.bgV b=false∨Sp.blk ch da=false then 1 else if ch≠qi 5 b then 11 else 0
def Sp.puN (b:List C) (ch:Int) (da:List (List C)):Int:=min ((da.length:Int)/ch) (qi 0 b-Sp.rsW (Sp.br b))
def Sp.puL (b:List C) (ch:Int) (da:List (List C)):Int:=if Sp.puE b ch da=0 then(da.length:Int)/ch-Sp.puN b ch da else 0
def Sp.puV (b:List C) (ch:Int) (da:List (List C)):List C:=if Sp.puE b ch da=0 then sga 0 [0,0,0,0,0,0,0,0,0,0,0] b [.l (ql 11 b++cutRows da none (some (Sp.puN b ch da*ch))),.i (iWrap .i64 (qi 12 b+Sp.puL b ch da)),.i (qi 13 b)]else[]
end Go
namespace Go
open Go.Sx
theorem Sp.bgV_of {b:List C} (h:Sp.bgV b=true):Sp.rsV (Sp.br b)=true∧Sp.valid (qi 1 b) (qi 2 b) (qi 3 b) (qi 4 b)=true∧1≤qi 0 b∧qi 0 b≤65536∧Sp.rsW (Sp.br b)≤qi 0 b∧0≤qi 12 b∧0≤qi 13 b:=by
 simpa only[Sp.bgV,Bool.and_eq_true,decide_eq_true_eq]using h
theorem Sp.rsW_bd {r:List C} (h:Sp.rsV r=true):0≤Sp.rsW r∧Sp.rsW r≤65536:=by
 have v:=(Sp.rsV_of h).2
 have c:=Sp.frm_of v
 rw[Sp.rsW_of h]
 exact⟨(Sp.blk_len v).2.1,c.2.2.2⟩
theorem Sp.zrs_len (n:Int):(Sp.zrs n).length=n.toNat:=List.length_replicate
theorem Sp.blk_zrs {ch n:Int} (h:1≤ch) (h1:ch≤8) (h2:0≤n) (h3:n≤65536):Sp.blk ch (Sp.zrs (ch*n))=true∧((Sp.zrs (ch*n)).length:Int)/ch=n:=by
 have e:((Sp.zrs (ch*n)).length:Int)=ch*n:=by rw[Sp.zrs_len,Int.toNat_of_nonneg (Int.mul_nonneg (by omega) h2)]
 have q:ch*n/ch=n:=Int.mul_ediv_cancel_left n (by omega)
 refine⟨?_,by rw[e,q]⟩
 rw[Sp.blk_yes (by rw[e,q,Int.mul_emod_right]; omega)]
 exact List.all_eq_true.2 fun x hx=>by rw[List.eq_of_mem_replicate hx]; rfl
theorem Sp.blk_take {ch n:Int} {da:List (List C)} (h:Sp.blk ch da=true) (h0:0≤n) (h1:n≤(da.length:Int)/ch):Sp.blk ch (da.take (n*ch).toNat)=true∧((da.take (n*ch).toNat).length:Int)=n*ch:=by
 have c:=Sp.frm_of h
 have l:=Sp.blk_len h
 have m:=Int.mul_le_mul_of_nonneg_right h1 (show 0≤ch by omega)
 have m0:=Int.mul_nonneg h0 (show 0≤ch by omega)
 rw[Int.mul_comm ((da.length:Int)/ch)]at m
 have e:((da.take (n*ch).toNat).length:Int)=n*ch:=by rw[List.length_take]; omega
 have q:n*ch/ch=n:=Int.mul_ediv_cancel n (by omega)
 refine⟨?_,e⟩
 rw[Sp.blk_yes (by rw[e,q,Int.mul_emod_left]; omega)]
 exact List.all_eq_true.2 fun x hx=>List.all_eq_true.1 (Sp.blk_all h) x (List.mem_of_mem_take hx)
theorem Sp.rn0 {ch n d:Int} (h:Sp.rsV (Sp.rn ch n d)=true):Sp.rnE ch n d=0∧Sp.rnV ch n d=Sp.rn ch n d:=⟨if_neg (by simp[h]),if_neg (by simp[h])⟩
theorem Sp.fd0 {r:List C} {ch:Int} {da:List (List C)} (h:Sp.rsV r=true) (h1:Sp.blk ch da=true) (h2:ch=qi 0 r) (h3:Sp.rsW r+(da.length:Int)/ch≤65536):Sp.fdE r ch da=0∧Sp.fdV r ch da=sga 0 [0,0,0,0,0,0] r [.l (ql 6 r++da)]:=by
 have e:Sp.fdE r ch da=0:=by
  rw[Sp.fd3 h h1 h2,if_neg]
  have l1:=Sp.blk_len (Sp.rsV_of h).2
  have l2:=Sp.blk_len h1
  have c:=Sp.frm_of h1
  rw[Sp.rsW_of h]at h3
  rw[h2]at l2 h3 c
  rw[show((ql 6 r).length:Int)+(da.length:Int)=qi 0 r*((ql 6 r).length/qi 0 r+(da.length:Int)/qi 0 r) by rw[Int.mul_add]; omega,Int.mul_ediv_cancel_left _ (by omega)]
  omega
 exact⟨e,if_pos e⟩
end Go
namespace Go.Sx
theorem v128 (b:List C):WD hG b→True∧Cn (Sp.rsV (Sp.br b)) (True∧Cn (Sp.valid (qi 1 b) (qi 2 b) (qi 3 b) (qi 4 b)) (Cn (bLe 1 (qi 0 b)) (Cn (bLe (qi 0 b) 65536) (True∧(InR .i64 (Sp.rsW (Sp.br b))→Cn (bLe (Sp.rsW (Sp.br b)) (qi 0 b)) (Cn (bLe 0 (qi 12 b)) (bLe 0 (qi 13 b)=Sp.bgV b) (false=Sp.bgV b)) (false=Sp.bgV b))) (false=Sp.bgV b)) (false=Sp.bgV b)) (false=Sp.bgV b)) (false=Sp.bgV b):=by
 intro hw
 simp only[D,E,Sp.bgV]
 cases Sp.rsV (Sp.br b)
 · simp
 cases Sp.valid (qi 1 b) (qi 2 b) (qi 3 b) (qi 4 b)
 · simp
 simp only[Bool.true_and,E]
 repeat' (first|apply And.intro|intro _)
 all_goals (first|contradiction|(simp only[decide_eq_decide]; omega)|(symm; simp only[decide_eq_false_iff_not]; omega))
def r128:Cr PR:=K0 [r197,r166,r185] 128 6 {ps:=[(true,hG)],rs:=[(false,[.bool])],pre:=fun _=>True,out:=fun a=>[[.b (Sp.bgV (arg 0 a))]]} U fun a=>Y (v128 (arg 0 a))
end Go.Sx
namespace Go.Sx
theorem v54 (b:List C):WD hG b→True∧Cn (Sp.rsV (Sp.br b)) (True∧Cn (Sp.valid (qi 1 b) (qi 2 b) (qi 3 b) (qi 4 b)) (Cn (bLe 1 (qi 0 b)) (Cn (bLe (qi 0 b) 65536) (True∧(InR .i64 (Sp.rsW (Sp.br b))→Cn (bLe (Sp.rsW (Sp.br b)) (qi 0 b)) (Cn (bLe 0 (qi 12 b)) (bLe 0 (qi 13 b)=Sp.bgV b) (false=Sp.bgV b)) (false=Sp.bgV b))) (false=Sp.bgV b)) (false=Sp.bgV b)) (false=Sp.bgV b)) (false=Sp.bgV b):=by
 intro hw
 simp only[D,E,Sp.bgV]
 cases Sp.rsV (Sp.br b)
 · simp
 cases Sp.valid (qi 1 b) (qi 2 b) (qi 3 b) (qi 4 b)
 · simp
 simp only[Bool.true_and,E]
 repeat' (first|apply And.intro|intro _)
 all_goals (first|contradiction|(simp only[decide_eq_decide]; omega)|(symm; simp only[decide_eq_false_iff_not]; omega))
def r54:Cr PR:=K0 [r118,r119,r55] 54 6 {ps:=[(true,hG)],rs:=[(false,[.bool])],pre:=fun _=>True,out:=fun a=>[[.b (Sp.bgV (arg 0 a))]]} U fun a=>Y (v54 (arg 0 a))
end Go.Sx
namespace Go.Sx
theorem v15 (b:List C):WD hG b→True∧True∧Cn (bNot (Sp.bgV b)) (0=Sp.bgF b) (True∧(InR .i64 (Sp.rsW (Sp.br b))→Sp.rsW (Sp.br b)=Sp.bgF b)):=by
 intro hw
 simp only[D,E,Sp.bgF]
 exact⟨fun h=>(if_neg (by simp[h])).symm,fun h _=>(if_pos h).symm⟩
def r15:Cr PR:=K0 [r54,r55] 15 6 {ps:=[(true,hG)],rs:=[(false,hI)],pre:=fun _=>True,out:=fun a=>[[.i (Sp.bgF (arg 0 a))]]} U fun a=>Y (v15 (arg 0 a))
end Go.Sx
namespace Go.Sx
theorem v101 (ch:Int) (n:Int) (d:Int) (t:Int) (e:Int) (g:Int) (m:Int) (cap:Int) (fill:Int):InR .i64 ch∧InR .i64 n∧InR .i64 d∧InR .i64 t∧InR .i64 e∧InR .i64 g∧InR .i64 m∧InR .i64 cap∧InR .i64 fill→Cn (bLt cap 1) (Sp.z14 (Sp.bnV ch n d t e g m cap fill)∧2=Sp.bnE ch n d t e g m cap fill) (Cn (bLt 65536 cap) (Sp.z14 (Sp.bnV ch n d t e g m cap fill)∧2=Sp.bnE ch n d t e g m cap fill) (Cn (bLt fill 0) (Sp.z14 (Sp.bnV ch n d t e g m cap fill)∧2=Sp.bnE ch n d t e g m cap fill) (Cn (bLt cap fill) (Sp.z14 (Sp.bnV ch n d t e g m cap fill)∧2=Sp.bnE ch n d t e g m cap fill) (True∧(WD hR (Sp.rnV ch n d)∧InR .i64 (Sp.rnE ch n d)→Cn (bNe (Sp.rnE ch n d) 0) (Sp.z14 (Sp.bnV ch n d t e g m cap fill)∧1=Sp.bnE ch n d t e g m cap fill) (True∧True∧Cn (bNot (Sp.valid t e g m)) (Sp.z14 (Sp.bnV ch n d t e g m cap fill)∧1=Sp.bnE ch n d t e g m cap fill) (True∧(InR .i64 (Sp.silC ch fill)∧WL hW (Sp.silD ch fill)∧InR .i64 (Sp.silE ch fill)→True∧(WD hR (Sp.fdV (Sp.rnV ch n d) (Sp.silC ch fill) (Sp.silD ch fill))∧InR .i64 (Sp.fdE (Sp.rnV ch n d) (Sp.silC ch fill) (Sp.silD ch fill))→C.i cap::C.i t::C.i e::C.i g::C.i m::sga 0 [0,0,0,0,0,0,3] (Sp.fdV (Sp.rnV ch n d) (Sp.silC ch fill) (Sp.silD ch fill)) [C.i 0,C.i 0]=sg 0 [0,0,0,0,0,0,0,0,0,0,0,3,0,0] (Sp.bnV ch n d t e g m cap fill)∧0=Sp.bnE ch n d t e g m cap fill))))))))):=by
 intro hw
 have no:∀ {x:Int},x≠0→Sp.bnE ch n d t e g m cap fill=x→([C.i 0,C.i 0,C.i 0,C.i 0,C.i 0,C.i 0,C.i 0,C.i 0,C.i 0,C.i 0,C.i 0,C.l [],C.i 0,C.i 0]:List C)=sg 0 [0,0,0,0,0,0,0,0,0,0,0,3,0,0] (Sp.bnV ch n d t e g m cap fill)∧x=Sp.bnE ch n d t e g m cap fill:=fun h h1=>⟨by unfold Sp.bnV; rw[if_neg (by omega)]; rfl,h1.symm⟩
 have n2:cap<1∨65536<cap∨fill<0∨cap<fill→Sp.bnE ch n d t e g m cap fill=2:=fun h=>if_pos h
 have n1:¬(cap<1∨65536<cap∨fill<0∨cap<fill)→Sp.rsV (Sp.rn ch n d)=false∨Sp.valid t e g m=false→Sp.bnE ch n d t e g m cap fill=1:=fun h h1=>by unfold Sp.bnE; rw[if_neg h,if_pos h1]
 have y0:¬(cap<1∨65536<cap∨fill<0∨cap<fill)→Sp.rsV (Sp.rn ch n d)=true→Sp.valid t e g m=true→Sp.bn ch n d t e g m cap fill=sg 0 [0,0,0,0,0,0,0,0,0,0,0,3,0,0] (Sp.bnV ch n d t e g m cap fill)∧0=Sp.bnE ch n d t e g m cap fill:=fun h h1 h2=>by
  have e:Sp.bnE ch n d t e g m cap fill=0:=by unfold Sp.bnE; rw[if_neg h,if_neg (by simp[h1,h2])]
  exact⟨by unfold Sp.bnV; rw[if_pos e]; rfl,e.symm⟩
 have r1:Sp.rnE ch n d≠0→Sp.rsV (Sp.rn ch n d)=false:=fun h=>by
  cases hv:Sp.rsV (Sp.rn ch n d)
  · rfl
  · exact(h (Sp.rn0 hv).1).elim
 have r2:Sp.rnE ch n d=0→Sp.rsV (Sp.rn ch n d)=true:=fun h=>by
  cases hv:Sp.rsV (Sp.rn ch n d)
  · unfold Sp.rnE at h; rw[if_pos hv]at h; cases h
  · rfl
 simp only[D,E]
 refine⟨fun h=>no (by omega) (n2 (by omega)),fun h0=>⟨fun h=>no (by omega) (n2 (by omega)),fun h1=>⟨fun h=>no (by omega) (n2 (by omega)),fun h2=>⟨fun h=>no (by omega) (n2 (by omega)),fun h3 _=> ?_⟩⟩⟩⟩
 refine⟨fun h4=>no (by omega) (n1 (by omega) (.inl (r1 h4))),fun h4=>⟨fun h5=>no (by omega) (n1 (by omega) (.inr h5)),fun h5 _ _=> ?_⟩⟩
 have hv:=r2 (by omega)
 have c:=Sp.frm_of (Sp.rsV_of hv).2
 have c0:1≤ch∧ch≤8:=⟨c.1,c.2.1⟩
 have es:Sp.silE ch fill=0:=if_pos (by omega)
 have z:=Sp.blk_zrs (n:=fill) c0.1 c0.2 (by omega) (by omega)
 have w:Sp.rsW (Sp.rn ch n d)=0:=by rw[Sp.rsW_of hv]; exact Int.zero_ediv ch
 have f:=Sp.fd0 hv z.1 rfl (by rw[w,z.2]; omega)
 rw[show Sp.silC ch fill=ch from if_pos es,show Sp.silD ch fill=Sp.zrs (ch*fill)from if_pos es,(Sp.rn0 hv).2,f.2]
 exact y0 (by omega) hv h5
def r101:Cr PR:=K0 [r165,r166,r73,r167] 101 6 {ps:=[(false,hI),(true,hII),(true,[.int .i64,.int .i64,.int .i64,.int .i64]),(false,hI),(false,hI)],rs:=[(true,hG),(false,hI)],pre:=fun _=>True,out:=fun a=>[rb [0,0,0,0,0,0,0,0,0,0,0,3,0,0] (Sp.bnV (I a 0 0) (I a 1 0) (I a 1 1) (I a 2 0) (I a 2 1) (I a 2 2) (I a 2 3) (I a 3 0) (I a 4 0)),[.i (Sp.bnE (I a 0 0) (I a 1 0) (I a 1 1) (I a 2 0) (I a 2 1) (I a 2 2) (I a 2 3) (I a 3 0) (I a 4 0))]]} U fun a=>Y (v101 (I a 0 0) (I a 1 0) (I a 1 1) (I a 2 0) (I a 2 1) (I a 2 2) (I a 2 3) (I a 3 0) (I a 4 0))
end Go.Sx
namespace Go.Sx
theorem v109 (ch:Int) (n:Int) (d:Int) (t:Int) (e:Int) (g:Int) (m:Int) (cap:Int) (fill:Int):InR .i64 ch∧InR .i64 n∧InR .i64 d∧InR .i64 t∧InR .i64 e∧InR .i64 g∧InR .i64 m∧InR .i64 cap∧InR .i64 fill→Cn (bLt cap 1) (Sp.z14 (Sp.bnV ch n d t e g m cap fill)∧2=Sp.bnE ch n d t e g m cap fill) (Cn (bLt 65536 cap) (Sp.z14 (Sp.bnV ch n d t e g m cap fill)∧2=Sp.bnE ch n d t e g m cap fill) (Cn (bLt fill 0) (Sp.z14 (Sp.bnV ch n d t e g m cap fill)∧2=Sp.bnE ch n d t e g m cap fill) (Cn (bLt cap fill) (Sp.z14 (Sp.bnV ch n d t e g m cap fill)∧2=Sp.bnE ch n d t e g m cap fill) (True∧(WD hR (Sp.rnV ch n d)∧InR .i64 (Sp.rnE ch n d)→True∧True∧Cn (bNot (Sp.valid t e g m)) (Sp.z14 (Sp.bnV ch n d t e g m cap fill)∧1=Sp.bnE ch n d t e g m cap fill) (Cn (bNe (Sp.rnE ch n d) 0) (Sp.z14 (Sp.bnV ch n d t e g m cap fill)∧1=Sp.bnE ch n d t e g m cap fill) (InR .i64 (iMul ch fill)∧(pLe 0 (iMul ch fill)∧pLe (iMul ch fill) (iMul ch fill)∧pRoom 4 (iMul ch fill))∧C.i cap::C.i t::C.i e::C.i g::C.i m::sga 0 [0,0,0,0,0,0] (Sp.rnV ch n d) [C.l (List.replicate (iMul ch fill).toNat [C.i 0]),C.i 0,C.i 0]=sg 0 [0,0,0,0,0,0,0,0,0,0,0,3,0,0] (Sp.bnV ch n d t e g m cap fill)∧0=Sp.bnE ch n d t e g m cap fill))))))):=by
 intro hw
 have no:∀ {x:Int},x≠0→Sp.bnE ch n d t e g m cap fill=x→([C.i 0,C.i 0,C.i 0,C.i 0,C.i 0,C.i 0,C.i 0,C.i 0,C.i 0,C.i 0,C.i 0,C.l [],C.i 0,C.i 0]:List C)=sg 0 [0,0,0,0,0,0,0,0,0,0,0,3,0,0] (Sp.bnV ch n d t e g m cap fill)∧x=Sp.bnE ch n d t e g m cap fill:=fun h h1=>⟨by unfold Sp.bnV; rw[if_neg (by omega)]; rfl,h1.symm⟩
 have n2:cap<1∨65536<cap∨fill<0∨cap<fill→Sp.bnE ch n d t e g m cap fill=2:=fun h=>if_pos h
 have n1:¬(cap<1∨65536<cap∨fill<0∨cap<fill)→Sp.rsV (Sp.rn ch n d)=false∨Sp.valid t e g m=false→Sp.bnE ch n d t e g m cap fill=1:=fun h h1=>by unfold Sp.bnE; rw[if_neg h,if_pos h1]
 have y0:¬(cap<1∨65536<cap∨fill<0∨cap<fill)→Sp.rsV (Sp.rn ch n d)=true→Sp.valid t e g m=true→Sp.bn ch n d t e g m cap fill=sg 0 [0,0,0,0,0,0,0,0,0,0,0,3,0,0] (Sp.bnV ch n d t e g m cap fill)∧0=Sp.bnE ch n d t e g m cap fill:=fun h h1 h2=>by
  have e:Sp.bnE ch n d t e g m cap fill=0:=by unfold Sp.bnE; rw[if_neg h,if_neg (by simp[h1,h2])]
  exact⟨by unfold Sp.bnV; rw[if_pos e]; rfl,e.symm⟩
 have r1:Sp.rnE ch n d≠0→Sp.rsV (Sp.rn ch n d)=false:=fun h=>by
  cases hv:Sp.rsV (Sp.rn ch n d)
  · rfl
  · exact(h (Sp.rn0 hv).1).elim
 have r2:Sp.rnE ch n d=0→Sp.rsV (Sp.rn ch n d)=true:=fun h=>by
  cases hv:Sp.rsV (Sp.rn ch n d)
  · unfold Sp.rnE at h; rw[if_pos hv]at h; cases h
  · rfl
 simp only[D,E]
 refine⟨fun h=>no (by omega) (n2 (by omega)),fun h0=>⟨fun h=>no (by omega) (n2 (by omega)),fun h1=>⟨fun h=>no (by omega) (n2 (by omega)),fun h2=>⟨fun h=>no (by omega) (n2 (by omega)),fun h3 _=> ?_⟩⟩⟩⟩
 refine⟨fun h5=>no (by omega) (n1 (by omega) (.inr h5)),fun h5=>⟨fun h4=>no (by omega) (n1 (by omega) (.inl (r1 h4))),fun h4=> ?_⟩⟩
 have hv:=r2 (by omega)
 have c:=Sp.frm_of (Sp.rsV_of hv).2
 have c0:1≤ch∧ch≤8:=⟨c.1,c.2.1⟩
 have b:=mul_bd (x:=ch) (X:=8) (y:=fill) (Y:=65536) (by omega) (by omega) (by omega) (by omega)
 rw[(Sp.rn0 hv).2]
 exact⟨by simp only[InR]; omega,⟨b.1,Int.le_refl _,by omega⟩,y0 (by omega) hv h5⟩
def r109:Cr PR:=K0 [r174,r119] 109 6 {ps:=[(false,hI),(true,hII),(true,[.int .i64,.int .i64,.int .i64,.int .i64]),(false,hI),(false,hI)],rs:=[(true,hG),(false,hI)],pre:=fun _=>True,out:=fun a=>[rb [0,0,0,0,0,0,0,0,0,0,0,3,0,0] (Sp.bnV (I a 0 0) (I a 1 0) (I a 1 1) (I a 2 0) (I a 2 1) (I a 2 2) (I a 2 3) (I a 3 0) (I a 4 0)),[.i (Sp.bnE (I a 0 0) (I a 1 0) (I a 1 1) (I a 2 0) (I a 2 1) (I a 2 2) (I a 2 3) (I a 3 0) (I a 4 0))]]} U fun a=>Y (v109 (I a 0 0) (I a 1 0) (I a 1 1) (I a 2 0) (I a 2 1) (I a 2 2) (I a 2 3) (I a 3 0) (I a 4 0))
end Go.Sx
namespace Go.Sx
theorem v121 (b:List C) (ch:Int) (da:List (List C)):WD hG b∧InR .i64 ch∧WL hW da→True→True∧True∧Cn (bNot (Sp.bgV b)) (Sp.z14 (Sp.puV b ch da)∧0=Sp.puL b ch da∧1=Sp.puE b ch da) (True∧True∧Cn (bNot (Sp.blk ch da)) (Sp.z14 (Sp.puV b ch da)∧0=Sp.puL b ch da∧1=Sp.puE b ch da) (Cn (bNe ch (qi 5 b)) (Sp.z14 (Sp.puV b ch da)∧0=Sp.puL b ch da∧11=Sp.puE b ch da) (pLe (iLen da) 9223372036854775807→pNe ch 0∧True∧(InR .i64 (Sp.rsW (Sp.br b))→(geB none (some (iWrap .i64 (iMul (iMin (iWrap .i64 (iQuo (iLen da) ch)) (iWrap .i64 (iSub (qi 0 b) (Sp.rsW (Sp.br b))))) ch))) (iLen da)∧Sm (iWrap .i64 (iMul (iMin (iWrap .i64 (iQuo (iLen da) ch)) (iWrap .i64 (iSub (qi 0 b) (Sp.rsW (Sp.br b))))) ch)))∧True∧(WD hR (Sp.fdV (Sp.br b) ch (cutRows da none (some (iWrap .i64 (iMul (iMin (iWrap .i64 (iQuo (iLen da) ch)) (iWrap .i64 (iSub (qi 0 b) (Sp.rsW (Sp.br b))))) ch)))))∧InR .i64 (Sp.fdE (Sp.br b) ch (cutRows da none (some (iWrap .i64 (iMul (iMin (iWrap .i64 (iQuo (iLen da) ch)) (iWrap .i64 (iSub (qi 0 b) (Sp.rsW (Sp.br b))))) ch)))))→sga 0 [0,0,0,0,0] b (sga 0 [0,0,0,0,0,0,3] (Sp.fdV (Sp.br b) ch (cutRows da none (some (iWrap .i64 (iMul (iMin (iWrap .i64 (iQuo (iLen da) ch)) (iWrap .i64 (iSub (qi 0 b) (Sp.rsW (Sp.br b))))) ch))))) [C.i (iWrap .i64 (iAdd (qi 12 b) (iWrap .i64 (iSub (iWrap .i64 (iQuo (iLen da) ch)) (iMin (iWrap .i64 (iQuo (iLen da) ch)) (iWrap .i64 (iSub (qi 0 b) (Sp.rsW (Sp.br b))))))))),C.i (qi 13 b)])=sg 0 [0,0,0,0,0,0,0,0,0,0,0,3,0,0] (Sp.puV b ch da)∧iWrap .i64 (iSub (iWrap .i64 (iQuo (iLen da) ch)) (iMin (iWrap .i64 (iQuo (iLen da) ch)) (iWrap .i64 (iSub (qi 0 b) (Sp.rsW (Sp.br b))))))=Sp.puL b ch da∧0=Sp.puE b ch da))))):=by
 intro hw hp
 have no:∀ {x:Int},x≠0→Sp.puE b ch da=x→([C.i 0,C.i 0,C.i 0,C.i 0,C.i 0,C.i 0,C.i 0,C.i 0,C.i 0,C.i 0,C.i 0,C.l [],C.i 0,C.i 0]:List C)=sg 0 [0,0,0,0,0,0,0,0,0,0,0,3,0,0] (Sp.puV b ch da)∧0=Sp.puL b ch da∧x=Sp.puE b ch da:=fun h h1=>⟨by unfold Sp.puV; rw[if_neg (by omega)]; rfl,(if_neg (by omega)).symm,h1.symm⟩
 simp only[D,E]
 refine⟨fun h=>no (by omega) (if_pos (.inl h)),fun h=>⟨fun h1=>no (by omega) (if_pos (.inr h1)),fun h1=>⟨fun h2=>no (by omega) (by unfold Sp.puE; rw[if_neg (by simp[h,h1]),if_pos h2]),fun h2=> ?_⟩⟩⟩
 have e:Sp.puE b ch da=0:=by unfold Sp.puE; rw[if_neg (by simp[h,h1]),if_neg (by omega)]
 have v:=Sp.bgV_of h
 have w:=Sp.rsW_bd v.1
 have c:=Sp.frm_of h1
 have l:=Sp.blk_len h1
 have n0:0≤Sp.puN b ch da∧Sp.puN b ch da≤65536∧Sp.puN b ch da≤(da.length:Int)/ch∧Sp.puN b ch da≤qi 0 b-Sp.rsW (Sp.br b):=by unfold Sp.puN; omega
 have t:=Sp.blk_take h1 n0.1 n0.2.2.1
 have tl:Sp.rsW (Sp.br b)+((da.take (Sp.puN b ch da*ch).toNat).length:Int)/ch≤65536:=by rw[t.2,Int.mul_ediv_cancel _ (by omega)]; omega
 have f:=Sp.fd0 v.1 t.1 (by show ch=qi 5 b; omega) tl
 have m:=mul_bd (x:=Sp.puN b ch da) (X:=65536) (y:=ch) (Y:=8) (by omega) (by omega) (by omega) (by omega)
 have m1:Sp.puN b ch da*ch≤(da.length:Int):=by rw[←t.2,List.length_take]; omega
 have eL:Sp.puL b ch da=(da.length:Int)/ch-Sp.puN b ch da:=if_pos e
 intro _
 rw[Int.tdiv_eq_ediv_of_nonneg (Int.natCast_nonneg _),Sp.wrapi (e:=(da.length:Int)/ch) (by omega) (by omega),Sp.wrapi (e:=qi 0 b-Sp.rsW (Sp.br b)) (by omega) (by omega)]
 rw[show min ((da.length:Int)/ch) (qi 0 b-Sp.rsW (Sp.br b))=Sp.puN b ch da from rfl,←eL,Sp.wrapi (e:=Sp.puN b ch da*ch) (by omega) (by omega),Sp.wrapi (e:=Sp.puL b ch da) (by omega) (by omega)]
 rw[show cutRows da none (some (Sp.puN b ch da*ch))=da.take (Sp.puN b ch da*ch).toNat from rfl]
 refine⟨by omega,fun _=>⟨by simp only[geB]; omega,fun _=>⟨?_,rfl,e.symm⟩⟩⟩
 rw[f.2]; unfold Sp.puV; rw[if_pos e]; rfl
def r121:Cr PR:=Kw (fun _=>true) [r128,r120,r185,r167] 121 6 {ps:=[(true,hG),(true,[.int .i64,.sl hW])],rs:=[(true,hG),(false,hI),(false,hI)],pre:=fun _=>True,out:=fun a=>[rb [0,0,0,0,0,0,0,0,0,0,0,3,0,0] (Sp.puV (arg 0 a) (I a 1 0) (L a 1 1)),[.i (Sp.puL (arg 0 a) (I a 1 0) (L a 1 1))],[.i (Sp.puE (arg 0 a) (I a 1 0) (L a 1 1))]]} U fun a=>Y (v121 (arg 0 a) (I a 1 0) (L a 1 1))
end Go.Sx
namespace Go.Sx
end Go.Sx
namespace Go.Sx
end Go.Sx

set_option linter.unusedVariables false
set_option linter.unusedSimpArgs false
set_option maxRecDepth 100000
set_option maxHeartbeats 4000000
namespace Go.Sx
theorem v117 (xs:List (List C)):WL hW xs→pLe (iLen xs) 1000000→(xs=[]→[]=xs)∧pRoom 4 (iLen xs)∧Sm xs:=by
 intro hw hp
 simp only[D,E]at hp ⊢
 exact⟨fun h=>h.symm,by omega⟩
def r117:Cr PR:=K [] 117 6 {ps:=[(false,[.sl hW])],rs:=[(false,[.sl hW])],pre:=fun a=>pLe (iLen (L a 0 0)) 1000000,out:=fun a=>[[.l (L a 0 0)]]} U fun a=>Y (v117 (L a 0 0))
end Go.Sx
namespace Go
open Go.Sx
def Sp.pA (b:List C):Int:=Sp.adjust (qi 1 b) (qi 2 b) (qi 3 b) (qi 4 b) (Sp.rsW (Sp.br b))
def Sp.pP (b:List C):List C:=Sp.rtV (Sp.bp b) (Sp.pA b)
def Sp.pR (b:List C):List C:= .i (qi 5 b)::sga 0 [0,0,0,0,0] (Sp.pP b) [.l (ql 11 b)]
def Sp.plM (b:List C) (n:Int):Int:=iMin (Sp.mkpV (Sp.pP b) (Sp.rsW (Sp.br b))) n
def Sp.plK (b:List C) (i:Int):Int:=iSub (Sp.phX (Sp.pP b) i) (qi 3 (Sp.pP b))
def Sp.plQ (b:List C):Int:=iMul (qi 1 (Sp.pP b)) 65536
def Sp.frW (r:List C) (k:Int):List (List C):=cutRows (ql 6 r) (some (Sp.frA r k)) (some (Sp.frA r k+qi 0 r))
def Sp.plX (b:List C) (k c:Int):Int:=qi 0 (rGet (Sp.frW (Sp.pR b) k) c)
def Sp.plT (b:List C) (i c:Int):Int:=iAdd (iAdd (iMul (Sp.plX b (Sp.plK b i) c) (iSub (Sp.plQ b) (Sp.phF (Sp.pP b) i))) (iMul (Sp.plX b (iAdd (Sp.plK b i) 1) c) (Sp.phF (Sp.pP b) i))) (iQuo (Sp.plQ b) 2)
def Sp.plE (b:List C) (n:Int):Int:=if Sp.bgV b=false then 1 else if n<0∨65536<n then 2 else Sp.psE (Sp.pR b) (Sp.plM b n)
def Sp.plC (b:List C) (n:Int):Int:=if Sp.plE b n=0 then qi 5 b else 0
def Sp.plD (b:List C) (n:Int):List (List C):=if Sp.plE b n=0 then Sp.frs (Sp.pR b) (Sp.plM b n)++Sp.zrs (qi 5 b*(n-Sp.plM b n))else[]
def Sp.plN (b:List C) (n:Int):Int:=if Sp.plE b n=0 then n-Sp.plM b n else 0
def Sp.plV (b:List C) (n:Int):List C:=if Sp.plE b n=0 then sga 0 [0,0,0,0,0] b (sga 0 [0,0,0,0,0,0,3] (Sp.psV (Sp.pR b) (Sp.plM b n)) [.i (qi 12 b),.i (iWrap .i64 (qi 13 b+(n-Sp.plM b n)))])else[]
end Go
namespace Go
open Go.Sx
theorem Sp.min_mul {a b c:Int} (h:0≤c):min a b*c=min (a*c) (b*c):=by
 rcases Int.le_total a b with h1|h1
 · have:=Int.mul_le_mul_of_nonneg_right h1 h
   rw[Int.min_eq_left h1,Int.min_eq_left this]
 · have:=Int.mul_le_mul_of_nonneg_right h1 h
   rw[Int.min_eq_right h1,Int.min_eq_right this]
theorem Sp.pA_bd {b:List C} (h:Sp.bgV b=true): -4096≤Sp.pA b∧Sp.pA b≤4096:=by
 have v:=(Sp.bgV_of h).2.1
 simp only[Sp.valid,decide_eq_true_eq]at v
 have m1:=Int.mul_nonneg (show 0≤max 0 (qi 1 b-Sp.rsW (Sp.br b)-qi 2 b) by omega) (show 0≤qi 3 b by omega)
 have m2:=Int.mul_nonneg (show 0≤max 0 (Sp.rsW (Sp.br b)-qi 1 b-qi 2 b) by omega) (show 0≤qi 3 b by omega)
 unfold Sp.pA Sp.adjust
 split
 · omega
 · split<;>omega
theorem Sp.pP_eq {b:List C} (h:Sp.bgV b=true):Sp.pP b=[.i (qi 6 b),.i (qi 7 b),.i (Sp.pA b),.i (qi 9 b),.i (qi 10 b)]∧Sp.phV (Sp.pP b)=true:=by
 have v:Sp.phV (Sp.bp b)=true:=(Sp.rsV_of (Sp.bgV_of h).1).1
 have a:=Sp.pA_bd h
 have e:Sp.pP b=[.i (qi 6 b),.i (qi 7 b),.i (Sp.pA b),.i (qi 9 b),.i (qi 10 b)]:=if_pos (by unfold Sp.rtE; rw[if_neg (by simp[v]),if_neg (by omega)])
 refine⟨e,?_⟩
 rw[e]
 unfold Sp.phV Sp.phQ at v ⊢
 rw[Bool.and_eq_true,decide_eq_true_eq]at v ⊢
 exact⟨v.1,v.2.1,v.2.2.1,a.1,a.2,v.2.2.2.2.2⟩
theorem Sp.pull {b:List C} {n:Int} (h:Sp.bgV b=true) (h0:0≤n) (h1:n≤65536):Sp.rsV (Sp.pR b)=true∧Sp.rsW (Sp.pR b)=Sp.rsW (Sp.br b)∧Sp.rp (Sp.pR b)=Sp.pP b∧0≤Sp.plM b n∧Sp.plM b n≤n∧Sp.phN (Sp.pP b) (Sp.plM b n)≤Sp.rsW (Sp.br b)∧Sp.plE b n=Sp.psE (Sp.pR b) (Sp.plM b n):=by
 have p:=Sp.pP_eq h
 have v:=(Sp.bgV_of h).1
 have er:Sp.rp (Sp.pR b)=Sp.pP b:=by unfold Sp.pR; rw[p.1]; rfl
 have ev:Sp.rsV (Sp.pR b)=true:=by unfold Sp.rsV; rw[er,p.2]; exact(Sp.rsV_of v).2
 have w:=Sp.rsW_bd v
 have em:Sp.mkpV (Sp.pP b) (Sp.rsW (Sp.br b))=Sp.phM (Sp.pP b) (Sp.rsW (Sp.br b)):=if_pos (Sp.mkpE0 p.2 w.1 (by omega))
 have mb:=Sp.phM_bd (Sp.pP b) (Sp.rsW (Sp.br b))
 have M:Sp.plM b n=min (Sp.phM (Sp.pP b) (Sp.rsW (Sp.br b))) n:=by unfold Sp.plM; rw[em]
 refine⟨ev,by rw[Sp.rsW_of ev,Sp.rsW_of v]; rfl,er,by omega,by omega,(Sp.phM_iff p.2 w.1 (by omega) (by omega)).2 (by omega),?_⟩
 unfold Sp.plE; rw[if_neg (by simp[h]),if_neg (by omega)]
theorem Sp.pl_no {b:List C} {n x:Int} (h:x≠0) (h1:Sp.plE b n=x):0=Sp.plC b n∧[]=Sp.plD b n∧0=Sp.plN b n∧Sp.z14 (Sp.plV b n)∧x=Sp.plE b n:=by
 have e:¬Sp.plE b n=0:=by omega
 unfold Sp.plC Sp.plD Sp.plN Sp.plV
 rw[if_neg e,if_neg e,if_neg e,if_neg e]
 exact⟨rfl,rfl,rfl,rfl,h1.symm⟩
theorem Sp.pl_yes {b:List C} {n:Int} (h:Sp.plE b n=0):Sp.plC b n=qi 5 b∧Sp.plD b n=Sp.frs (Sp.pR b) (Sp.plM b n)++Sp.zrs (qi 5 b*(n-Sp.plM b n))∧Sp.plN b n=n-Sp.plM b n∧Sp.plV b n=sga 0 [0,0,0,0,0] b (sga 0 [0,0,0,0,0,0,3] (Sp.psV (Sp.pR b) (Sp.plM b n)) [.i (qi 12 b),.i (iWrap .i64 (qi 13 b+(n-Sp.plM b n)))]):=⟨if_pos h,if_pos h,if_pos h,if_pos h⟩
theorem Sp.pl2 {b:List C} {n:Int} (h:Sp.bgV b=true) (h1:n<0∨65536<n):Sp.plE b n=2:=by unfold Sp.plE; rw[if_neg (by simp[h]),if_pos h1]
theorem Sp.frW_len {r:List C} {k:Int} (h:Sp.rsV r=true) (hw:1≤Sp.rsW r) (hk:0≤k):((Sp.frW r k).length:Int)=qi 0 r:=by
 have a:=Sp.frA_bd h hw hk
 have c:=Sp.frm_of (Sp.rsV_of h).2
 unfold Sp.frW
 simp only[cutRows,List.length_drop,List.length_take]; omega
theorem Sp.frW_at {r:List C} {k c:Int} (h:Sp.rsV r=true) (hw:1≤Sp.rsW r) (hk:0≤k) (h0:0≤c) (h1:c<qi 0 r):rGet (Sp.frW r k) c=rGet (ql 6 r) (Sp.frA r k+c):=by
 have a:=Sp.frA_bd h hw hk
 unfold Sp.frW rGet
 simp only[cutRows,List.getD_eq_getElem?_getD,List.getElem?_drop,List.getElem?_take]
 rw[if_pos (by omega),show(Sp.frA r k).toNat+c.toNat=(Sp.frA r k+c).toNat by omega]
end Go
namespace Go.Sx
theorem v266 (r:List C) (k:Int):WD hR r∧InR .i64 k→Sp.rsV r=true∧pLe 1 (Sp.rsW r)∧pLe 0 k∧pLe k 5000000000000000→pLe (iLen (ql 6 r)) 9223372036854775807→InR .i64 (iMul k (qi 0 r))∧InR .i64 (iSub (iLen (ql 6 r)) (qi 0 r))∧InR .i64 (iAdd (iMin (iMul k (qi 0 r)) (iSub (iLen (ql 6 r)) (qi 0 r))) (qi 0 r))∧InR .i64 (iAdd (iMin (iMul k (qi 0 r)) (iSub (iLen (ql 6 r)) (qi 0 r))) (qi 0 r))∧(geB (some (iMin (iMul k (qi 0 r)) (iSub (iLen (ql 6 r)) (qi 0 r)))) (some (iAdd (iMin (iMul k (qi 0 r)) (iSub (iLen (ql 6 r)) (qi 0 r))) (qi 0 r))) (iLen (ql 6 r))∧Sm (iAdd (iMin (iMul k (qi 0 r)) (iSub (iLen (ql 6 r)) (qi 0 r))) (qi 0 r)))∧cutRows (ql 6 r) (some (iMin (iMul k (qi 0 r)) (iSub (iLen (ql 6 r)) (qi 0 r)))) (some (iAdd (iMin (iMul k (qi 0 r)) (iSub (iLen (ql 6 r)) (qi 0 r))) (qi 0 r)))=Sp.frW r k:=by
 intro hw hp
 simp only[D,E]at hp ⊢
 have c:=Sp.frm_of (Sp.rsV_of hp.1).2
 have l:=Sp.blk_len (Sp.rsV_of hp.1).2
 rw[←Sp.rsW_of hp.1]at l
 have a:=Sp.frA_bd hp.1 hp.2.1 hp.2.2.1
 have m:=mul_bd (x:=k) (X:=5000000000000000) (y:=qi 0 r) (Y:=8) hp.2.2.1 hp.2.2.2 (by omega) (by omega)
 have e:min (k*qi 0 r) ((ql 6 r).length-qi 0 r)=Sp.frA r k:=by
  unfold Sp.frA
  rw[Sp.min_mul (by omega),Int.sub_mul,Int.one_mul,Int.mul_comm (Sp.rsW r)]
  omega
 rw[e]
 have rng:∀ {k:Int},-100000000000000000≤k→k≤100000000000000000→InR .i64 k:=fun a b=>by simp only[InR]; omega
 exact fun _=>⟨rng (by omega) (by omega),rng (by omega) (by omega),rng (by omega) (by omega),rng (by omega) (by omega),by simp only[geB]; omega,rfl⟩
def r266:Cr PR:=K [] 266 6 {ps:=[(true,hR),(false,hI)],rs:=[(false,[.sl hW])],pre:=fun a=>Sp.rsV (arg 0 a)=true∧(pLe 1 (Sp.rsW (arg 0 a))∧(pLe 0 (I a 1 0)∧pLe (I a 1 0) 5000000000000000)),out:=fun a=>[[.l (Sp.frW (arg 0 a) (I a 1 0))]]} U fun a=>Y (v266 (arg 0 a) (I a 1 0))
end Go.Sx
namespace Go.Sx
end Go.Sx
namespace Go.Sx
def A122 (b:List C) (n:Int):FuncId→Nat→LoopAnn:=fun ff ii=>bif Nat.beq ff 237 then(bif Nat.beq ii 7 then .on (fun sv0=>(match sv0.tmps.getD 10 .undef with| .ref kk _=> .inv (Int×List (List C)) (fun z=>Sp.frO (Sp.pR b) (Sp.plM b n) z.1 z.2) (fun z=>[(48,.int .i64 z.1)]) (fun z=>[(kk,.box [.int .i64 (qi 5 b),.own (kk-1) 0] 54),(kk-1,.row hW 21 0 z.2)]) [kk,kk-1] [0,1,2,4,5,6,7,8,9,10,11,12,13,15,16,17,18,19,20,21,30,47,48,49,72,73,74,102] (fun z=>(Sp.plM b n-z.1).toNat)|_=> .unroll 0))else .on (fun sv0=>match sv0.tmps.getD 48 .undef with| .int _ ci=>(match sv0.tmps.getD 10 .undef with| .ref kk _=> .inv (Int×List (List C)) (fun z=>Sp.frI (Sp.pR b) ci z.1 z.2) (fun z=>[(73,.int .i64 z.1)]) (fun z=>[(kk,.box [.int .i64 (qi 5 b),.own (kk-1) 0] 54),(kk-1,.row hW 21 0 z.2)]) [kk,kk-1] [0,1,2,4,5,6,7,8,9,10,11,12,13,15,16,17,18,19,20,21,30,47,48,49,72,73,74,102] (fun z=>(qi 5 b-z.1).toNat)|_=> .unroll 0)|_=> .unroll 0))else .unroll 0
def m122_0 (b:List C) (n:Int):Prop:=0=Sp.plC b n∧[]=Sp.plD b n∧0=Sp.plN b n∧Sp.z14 (Sp.plV b n)∧2=Sp.plE b n
def m122_1 (b:List C) (n:Int):List C:=(Sp.avV (Sp.pP b) (Sp.plM b n))
theorem v122 (b:List C) (n:Int):WD hG b∧InR .i64 n→True→True∧True∧Cn (bNot (Sp.bgV b)) (0=Sp.plC b n∧[]=Sp.plD b n∧0=Sp.plN b n∧Sp.z14 (Sp.plV b n)∧1=Sp.plE b n) (Cn (bLt n 0) ((m122_0 b n)) (Cn (bLt 65536 n) ((m122_0 b n)) (True∧(InR .i64 (Sp.rsW (Sp.br b))→True∧(InR .i64 (Sp.pA b)→True∧(WD hP (Sp.pP b)∧InR .i64 (Sp.rtE (Sp.bp b) (Sp.pA b))→True∧(InR .i64 (Sp.mkpV (Sp.pP b) (Sp.rsW (Sp.br b)))∧InR .i64 (Sp.mkpE (Sp.pP b) (Sp.rsW (Sp.br b)))→True∧True∧Cn (bNot (Sp.rsV (Sp.pR b))) (0=Sp.plC b n∧[]=Sp.plD b n∧0=Sp.plN b n∧Sp.z14 (Sp.plV b n)∧1=Sp.plE b n) (Cn (bLt (Sp.plM b n) 0) ((m122_0 b n)) (Cn (bLt 65536 (Sp.plM b n)) ((m122_0 b n)) (True∧(InR .i64 (Sp.ndV (Sp.pP b) (Sp.plM b n))∧InR .i64 (Sp.phE (Sp.pP b) (Sp.plM b n))→pLe (iLen (ql 11 b)) 9223372036854775807→(pNe (qi 5 b) 0∧InR .i64 (iQuo (iLen (ql 11 b)) (qi 5 b)))∧Cn (bLt (iQuo (iLen (ql 11 b)) (qi 5 b)) (Sp.ndV (Sp.pP b) (Sp.plM b n))) (0=Sp.plC b n∧[]=Sp.plD b n∧0=Sp.plN b n∧Sp.z14 (Sp.plV b n)∧4=Sp.plE b n) (True∧(WD hP (m122_1 b n)∧InR .i64 (Sp.avE (Sp.pP b) (Sp.plM b n))→Cn (bNe (Sp.avE (Sp.pP b) (Sp.plM b n)) 0) (Cn (bNe (Sp.avE (Sp.pP b) (Sp.plM b n)) 0) (0=Sp.plC b n∧[]=Sp.plD b n∧0=Sp.plN b n∧Sp.z14 (Sp.plV b n)∧Sp.avE (Sp.pP b) (Sp.plM b n)=Sp.plE b n) ((pLe 0 (iWrap .i64 (iMul (iWrap .i64 (iSub n (Sp.plM b n))) 0))∧pRoom 4 (iWrap .i64 (iMul (iWrap .i64 (iSub n (Sp.plM b n))) 0)))∧0=Sp.plC b n∧List.replicate (iWrap .i64 (iMul (iWrap .i64 (iSub n (Sp.plM b n))) 0)).toNat [C.i 0]=Sp.plD b n∧iWrap .i64 (iSub n (Sp.plM b n))=Sp.plN b n∧sga 0 [0,0,0,0,0] b [C.i 0,C.i 0,C.i 0,C.i 0,C.i 0,C.i 0,C.l [],C.i (qi 12 b),C.i (iWrap .i64 (iAdd (qi 13 b) (iWrap .i64 (iSub n (Sp.plM b n)))))]=sg 0 [0,0,0,0,0,0,0,0,0,0,0,3,0,0] (Sp.plV b n)∧0=Sp.plE b n)) (InR .i64 (Sp.plQ b)∧InR .i64 (iMul (Sp.plM b n) (qi 5 b))∧(pLe 0 0∧pLe 0 (iMul (Sp.plM b n) (qi 5 b))∧pRoom 4 (iMul (Sp.plM b n) (qi 5 b)))∧(∃(x:Int×List (List C)),Sp.frO (Sp.pR b) (Sp.plM b n) x.1 x.2∧0=x.1∧Sm (qi 5 b)∧List.replicate (Int.toNat 0) [C.i 0]=x.2)∧∀(x:Int×List (List C)),Sp.frO (Sp.pR b) (Sp.plM b n) x.1 x.2→InR .i64 x.1∧InR .i64 (qi 5 b)∧WL hW x.2→Cn (bLt x.1 (Sp.plM b n)) (True∧(InR .i64 (Sp.phX (Sp.pP b) x.1)∧InR .i64 (Sp.phF (Sp.pP b) x.1)∧InR .i64 (Sp.phE (Sp.pP b) x.1)→InR .i64 (Sp.plK b x.1)∧(Sp.rsV (Sp.pR b)=true∧pLe 1 (Sp.rsW (Sp.pR b))∧pLe 0 (Sp.plK b x.1)∧pLe (Sp.plK b x.1) 5000000000000000)∧(WL hW (Sp.frW (Sp.pR b) (Sp.plK b x.1))→InR .i64 (iAdd (Sp.plK b x.1) 1)∧(Sp.rsV (Sp.pR b)=true∧pLe 1 (Sp.rsW (Sp.pR b))∧pLe 0 (iAdd (Sp.plK b x.1) 1)∧pLe (iAdd (Sp.plK b x.1) 1) 5000000000000000)∧(WL hW (Sp.frW (Sp.pR b) (iAdd (Sp.plK b x.1) 1))→pLe (iLen (Sp.frW (Sp.pR b) (Sp.plK b x.1))) 9223372036854775807→(∃(x_1:Int×List (List C)),Sp.frI (Sp.pR b) x.1 x_1.1 x_1.2∧0=x_1.1∧Sm (qi 5 b)∧x.2=x_1.2)∧∀(x_1:Int×List (List C)),Sp.frI (Sp.pR b) x.1 x_1.1 x_1.2→InR .i64 x_1.1∧InR .i64 (qi 5 b)∧WL hW x_1.2→Cn (bLt x_1.1 (iLen (Sp.frW (Sp.pR b) (Sp.plK b x.1)))) (pIn 0 (iLen (Sp.frW (Sp.pR b) (Sp.plK b x.1))) x_1.1∧(InR .i32 (Sp.plX b (Sp.plK b x.1) x_1.1)→InR .i64 (iSub (Sp.plQ b) (Sp.phF (Sp.pP b) x.1))∧InR .i64 (iMul (Sp.plX b (Sp.plK b x.1) x_1.1) (iSub (Sp.plQ b) (Sp.phF (Sp.pP b) x.1)))∧pIn 0 (iLen (Sp.frW (Sp.pR b) (iAdd (Sp.plK b x.1) 1))) x_1.1∧(InR .i32 (Sp.plX b (iAdd (Sp.plK b x.1) 1) x_1.1)→InR .i64 (iMul (Sp.plX b (iAdd (Sp.plK b x.1) 1) x_1.1) (Sp.phF (Sp.pP b) x.1))∧InR .i64 (iAdd (iMul (Sp.plX b (Sp.plK b x.1) x_1.1) (iSub (Sp.plQ b) (Sp.phF (Sp.pP b) x.1))) (iMul (Sp.plX b (iAdd (Sp.plK b x.1) 1) x_1.1) (Sp.phF (Sp.pP b) x.1)))∧(pNe 2 0∧InR .i64 (iQuo (Sp.plQ b) 2))∧InR .i64 (Sp.plT b x.1 x_1.1)∧(pNe (Sp.plQ b) 0∧InR .i64 (iQuo (Sp.plT b x.1 x_1.1) (Sp.plQ b)))∧pNe (Sp.plQ b) 0∧Cn (bLt (iRem (Sp.plT b x.1 x_1.1) (Sp.plQ b)) 0) (InR .i64 (iSub (iQuo (Sp.plT b x.1 x_1.1) (Sp.plQ b)) 1)∧pRoom 4 (iLen (x_1.2++[[C.i (iWrap .i32 (iSub (iQuo (Sp.plT b x.1 x_1.1) (Sp.plQ b)) 1))]]))∧InR .i64 (iAdd x_1.1 1)∧Sm (Sp.pR b)∧Sm (Sp.plM b n)∧Sm (Sp.avE (Sp.pP b) (Sp.plM b n))∧Sm (Sp.plQ b)∧Sm x.1∧Sm (Sp.phX (Sp.pP b) x.1)∧Sm (Sp.phF (Sp.pP b) x.1)∧Sm (Sp.plK b x.1)∧Sm (Sp.frW (Sp.pR b) (Sp.plK b x.1))∧Sm (Sp.frW (Sp.pR b) (iAdd (Sp.plK b x.1) 1))∧Sm (Sp.plM b n)∧Sm x.1∧Sm (iLen (Sp.frW (Sp.pR b) (Sp.plK b x.1)))∧Sm (sga 0 [0,0,0,0,0,0] b (sga 0 [0,0,0,0,0] (Sp.pP b) (sg 11 [3,0,0] b)))∧Sm (Sp.pR b)∧Sm (Sp.pR b)∧Sm (Sp.pR b)∧Sm (sg 0 [0,0,0,0,0] (m122_1 b n))∧∃(y:Int×List (List C)),Sp.frI (Sp.pR b) x.1 y.1 y.2∧iAdd x_1.1 1=y.1∧Sm (qi 5 b)∧x_1.2++[[C.i (iWrap .i32 (iSub (iQuo (Sp.plT b x.1 x_1.1) (Sp.plQ b)) 1))]]=y.2∧nLt (qi 5 b-y.1).toNat (qi 5 b-x_1.1).toNat) (pRoom 4 (iLen (x_1.2++[[C.i (iWrap .i32 (iQuo (Sp.plT b x.1 x_1.1) (Sp.plQ b)))]]))∧InR .i64 (iAdd x_1.1 1)∧Sm (Sp.pR b)∧Sm (Sp.plM b n)∧Sm (Sp.avE (Sp.pP b) (Sp.plM b n))∧Sm (Sp.plQ b)∧Sm x.1∧Sm (Sp.phX (Sp.pP b) x.1)∧Sm (Sp.phF (Sp.pP b) x.1)∧Sm (Sp.plK b x.1)∧Sm (Sp.frW (Sp.pR b) (Sp.plK b x.1))∧Sm (Sp.frW (Sp.pR b) (iAdd (Sp.plK b x.1) 1))∧Sm (Sp.plM b n)∧Sm x.1∧Sm (iLen (Sp.frW (Sp.pR b) (Sp.plK b x.1)))∧Sm (sga 0 [0,0,0,0,0,0] b (sga 0 [0,0,0,0,0] (Sp.pP b) (sg 11 [3,0,0] b)))∧Sm (Sp.pR b)∧Sm (Sp.pR b)∧Sm (Sp.pR b)∧Sm (sg 0 [0,0,0,0,0] (m122_1 b n))∧∃(y:Int×List (List C)),Sp.frI (Sp.pR b) x.1 y.1 y.2∧iAdd x_1.1 1=y.1∧Sm (qi 5 b)∧x_1.2++[[C.i (iWrap .i32 (iQuo (Sp.plT b x.1 x_1.1) (Sp.plQ b)))]]=y.2∧nLt (qi 5 b-y.1).toNat (qi 5 b-x_1.1).toNat)))) (InR .i64 (iAdd x.1 1)∧Sm (Sp.pR b)∧Sm (Sp.plM b n)∧Sm (Sp.avE (Sp.pP b) (Sp.plM b n))∧Sm (Sp.plQ b)∧Sm (Sp.plM b n)∧Sm (sga 0 [0,0,0,0,0,0] b (sga 0 [0,0,0,0,0] (Sp.pP b) (sg 11 [3,0,0] b)))∧Sm (Sp.pR b)∧Sm (Sp.pR b)∧Sm (Sp.pR b)∧Sm (sg 0 [0,0,0,0,0] (m122_1 b n))∧∃(y:Int×List (List C)),Sp.frO (Sp.pR b) (Sp.plM b n) y.1 y.2∧iAdd x.1 1=y.1∧Sm (qi 5 b)∧x_1.2=y.2∧nLt (Sp.plM b n-y.1).toNat (Sp.plM b n-x.1).toNat))))) (pLe (iLen (ql 11 b)) 9223372036854775807→InR .i64 (iSub (qi 3 (m122_1 b n)) (qi 3 (Sp.pP b)))∧InR .i64 (iMul (iSub (qi 3 (m122_1 b n)) (qi 3 (Sp.pP b))) (qi 5 b))∧geB (some (iMin (iLen (ql 11 b)) (iMul (iSub (qi 3 (m122_1 b n)) (qi 3 (Sp.pP b))) (qi 5 b)))) none (iLen (ql 11 b))∧pLe (iLen (cutRows (ql 11 b) (some (iMin (iLen (ql 11 b)) (iMul (iSub (qi 3 (m122_1 b n)) (qi 3 (Sp.pP b))) (qi 5 b)))) none)) 1000000∧(WL hW (cutRows (ql 11 b) (some (iMin (iLen (ql 11 b)) (iMul (iSub (qi 3 (m122_1 b n)) (qi 3 (Sp.pP b))) (qi 5 b)))) none)→(pLe 0 (iWrap .i64 (iMul (iWrap .i64 (iSub n (Sp.plM b n))) (qi 5 b)))∧pRoom 4 (iAdd (iLen x.2) (iWrap .i64 (iMul (iWrap .i64 (iSub n (Sp.plM b n))) (qi 5 b)))))∧qi 5 b=Sp.plC b n∧x.2++List.replicate (iWrap .i64 (iMul (iWrap .i64 (iSub n (Sp.plM b n))) (qi 5 b))).toNat [C.i 0]=Sp.plD b n∧iWrap .i64 (iSub n (Sp.plM b n))=Sp.plN b n∧sga 0 [0,0,0,0,0,0] b (sga 0 [0,0,0,0,0] (m122_1 b n) [C.l (cutRows (ql 11 b) (some (iMin (iLen (ql 11 b)) (iMul (iSub (qi 3 (m122_1 b n)) (qi 3 (Sp.pP b))) (qi 5 b)))) none),C.i (qi 12 b),C.i (iWrap .i64 (iAdd (qi 13 b) (iWrap .i64 (iSub n (Sp.plM b n)))))])=sg 0 [0,0,0,0,0,0,0,0,0,0,0,3,0,0] (Sp.plV b n)∧0=Sp.plE b n)))))))))))))))):=by
 intro hw hp
 delta m122_0 m122_1
 simp only[D,E]
 refine⟨fun h=>Sp.pl_no (by omega) (if_pos h),fun h=>⟨fun h1=>Sp.pl_no (by omega) (Sp.pl2 h (.inl h1)),fun h1=>⟨fun h2=>Sp.pl_no (by omega) (Sp.pl2 h (.inr h2)),fun h2 _ _ _ _=> ?_⟩⟩⟩
 have q:=Sp.pull (n:=n) h (by omega) (by omega)
 have c:=Sp.frm_of (Sp.rsV_of q.1).2
 have c0:1≤qi 5 b∧qi 5 b≤8:=⟨c.1,c.2.1⟩
 have ew:=Sp.wrapi (e:=n-Sp.plM b n) (by omega) (by omega)
 have z:=mul_bd (x:=qi 5 b) (X:=8) (y:=n-Sp.plM b n) (Y:=65536) (by omega) (by omega) (by omega) (by omega)
 have p:=Sp.pP_eq h
 have er:=q.2.2.1
 have w:=Sp.rsW_bd (Sp.bgV_of h).1
 have eN:Sp.ndV (Sp.pP b) (Sp.plM b n)=Sp.phN (Sp.pP b) (Sp.plM b n):=if_pos (Sp.phE0 p.2 (by omega) (by omega)).1
 have eW:((ql 11 b).length:Int).tdiv (qi 5 b)=Sp.rsW (Sp.br b):=by rw[Int.tdiv_eq_ediv_of_nonneg (by omega),Sp.rsW_of (Sp.bgV_of h).1]; rfl
 have ea:Sp.psE (Sp.pR b) (Sp.plM b n)=Sp.avE (Sp.pP b) (Sp.plM b n):=by unfold Sp.psE; rw[er]
 rw[eN,eW,ew]
 refine⟨fun h3=>(by rw[q.1]at h3; cases h3),fun _=>⟨fun h3=>by omega,fun _=>⟨fun h3=>by omega,fun _ _ _=>⟨⟨by omega,by simp only[InR]; omega⟩,fun h3=>by omega,fun _ _=>⟨fun h3=>⟨fun _=>Sp.pl_no h3 (by omega),fun h4=>(h3 h4).elim⟩,fun h3=> ?_⟩⟩⟩⟩⟩
 have e0:Sp.plE b n=0:=by omega
 have y:=Sp.pl_yes e0
 have pb:=Sp.ph_bd p.2
 have eQ:Sp.plQ b=Sp.phQ (Sp.pP b):=rfl
 have e5:qi 0 (Sp.pR b)=qi 5 b:=rfl
 have mb:=mul_bd (x:=Sp.plM b n) (X:=65536) (y:=qi 5 b) (Y:=8) (by omega) (by omega) (by omega) (by omega)
 have rng:∀ {k:Int},-1000000000000000000≤k→k≤1000000000000000000→InR .i64 k:=fun a b=>by simp only[InR]; omega
 have l:=Sp.blk_len (Sp.rsV_of q.1).2
 rw[←Sp.rsW_of q.1]at l
 have l1:((ql 11 b).length:Int)=qi 5 b*Sp.rsW (Sp.pR b):=l.1
 have l2:((ql 11 b).length:Int)≤524288:=l.2.2
 refine⟨rng (by omega) (by omega),rng (by omega) (by omega),⟨by omega,mb.1,by omega⟩,⟨(0,[]),⟨Int.le_refl _,q.2.2.2.1,rfl⟩,rfl,rfl⟩,?_⟩
 rintro⟨i,ys⟩ ⟨i0,i1,i2⟩ _
 simp only at i0 i1 i2 ⊢
 subst i2
 have ln:=Sp.frs_len (Sp.pR b) i (by omega)
 rw[Int.toNat_of_nonneg i0]at ln
 have lb:=mul_bd (x:=i) (X:=65536) (y:=qi 0 (Sp.pR b)) (Y:=8) i0 (by omega) (by omega) (by omega)
 have k:=Sp.phE0 p.2 i0 (show i≤65536 by omega)
 have kb:=Sp.phA_bd p.2 i0 (show i≤65536 by omega)
 have eK:Sp.plK b i=Sp.frK (Sp.pR b) i:=by unfold Sp.frK; rw[er]; show Sp.phX (Sp.pP b) i-qi 3 (Sp.pP b)=_; rw[k.2.1]; omega
 have K0:0≤Sp.frK (Sp.pR b) i∧Sp.frK (Sp.pR b) i≤4000000000000000:=by unfold Sp.frK; rw[er]; exact⟨kb.2.2.2.2.1,kb.2.2.2.2.2.1⟩
 have eF:Sp.phF (Sp.pP b) i=Sp.frF (Sp.pR b) i:=by unfold Sp.frF; rw[er]; exact k.2.2
 have F0:0≤Sp.phF (Sp.pP b) i∧Sp.phF (Sp.pP b) i<Sp.plQ b:=by rw[k.2.2]; exact kb.2.2.2.2.2.2
 refine⟨fun hl _=> ?_,fun hl _=> ?_⟩
 · have w1:1≤Sp.rsW (Sp.pR b):=(Sp.need_w q.1 q.2.2.2.1 (by omega) (by rw[er,q.2.1]; exact q.2.2.2.2.2.1)).resolve_left (by omega)
   have L0:((Sp.frW (Sp.pR b) (Sp.plK b i)).length:Int)=qi 5 b:=Sp.frW_len q.1 w1 (by omega)
   have L1:((Sp.frW (Sp.pR b) (Sp.plK b i+1)).length:Int)=qi 5 b:=Sp.frW_len q.1 w1 (by omega)
   refine⟨rng (by omega) (by omega),⟨q.1,w1,by omega,by omega⟩,fun _=>⟨rng (by omega) (by omega),⟨q.1,w1,by omega,by omega⟩,fun _ _=>⟨⟨(0,_),⟨Int.le_refl _,by omega,(List.append_nil _).symm⟩,rfl,rfl⟩,?_⟩⟩⟩
   rintro⟨m,zs⟩ ⟨m0,m1,m2⟩ _
   simp only at m0 m1 m2 ⊢
   subst m2
   have m1':m≤qi 5 b:=m1
   rw[L0,L1]
   refine⟨fun hc=>⟨⟨m0,hc⟩,fun _=> ?_⟩,fun hc=>⟨rng (by omega) (by omega),(i+1,_),⟨by simp only; omega,by simp only; omega,?_⟩,rfl,rfl,by simp only; omega⟩⟩
   · have A0:=Sp.frA_bd q.1 w1 (k:=Sp.plK b i) (by omega)
     have A1:=Sp.frA_bd q.1 w1 (k:=Sp.plK b i+1) (by omega)
     rw[eK]at A0 A1
     have sa:=Sp.blk_all (Sp.rsV_of q.1).2
     have hc':m<qi 0 (Sp.pR b):=hc
     have x0:Sp.plX b (Sp.plK b i) m=qi 0 (rGet (ql 6 (Sp.pR b)) (Sp.frA (Sp.pR b) (Sp.frK (Sp.pR b) i)+m)):=by unfold Sp.plX; rw[Sp.frW_at q.1 w1 (by omega) m0 hc',eK]
     have x1:Sp.plX b (Sp.plK b i+1) m=qi 0 (rGet (ql 6 (Sp.pR b)) (Sp.frA (Sp.pR b) (Sp.frK (Sp.pR b) i+1)+m)):=by unfold Sp.plX; rw[Sp.frW_at q.1 w1 (by omega) m0 hc',eK]
     have s0:=Sp.smp_at sa (i:=Sp.frA (Sp.pR b) (Sp.frK (Sp.pR b) i)+m) (by omega) (by omega)
     have s1:=Sp.smp_at sa (i:=Sp.frA (Sp.pR b) (Sp.frK (Sp.pR b) i+1)+m) (by omega) (by omega)
     rw[←x0]at s0
     rw[←x1]at s1
     have eQ2:(Sp.plQ b).tdiv 2=Sp.plQ b/2:=Int.tdiv_eq_ediv_of_nonneg (by omega)
     have eT:Sp.plT b i m=Sp.plX b (Sp.plK b i) m*(Sp.plQ b-Sp.phF (Sp.pP b) i)+Sp.plX b (Sp.plK b i+1) m*Sp.phF (Sp.pP b) i+Sp.plQ b/2:=by rw[←eQ2]; rfl
     have eS:Sp.smF (Sp.pR b) i m=[.i (iWrap .i32 (Sp.plT b i m/Sp.plQ b))]:=by unfold Sp.smF Sp.btw; rw[eT,x0,x1,eF,er]; rfl
     have n1:=Sp.mul_ab (a:=Sp.plX b (Sp.plK b i) m) (y:=Sp.plQ b-Sp.phF (Sp.pP b) i) s0.1 s0.2 (by omega) (Int.le_refl _)
     have n2:=Sp.mul_ab (a:=Sp.plX b (Sp.plK b i+1) m) (y:=Sp.phF (Sp.pP b) i) s1.1 s1.2 F0.1 (Int.le_refl _)
     have tf:=Sp.floor_t (t:=Sp.plT b i m) (q:=Sp.plQ b) (by omega)
     have nn:=Int.natAbs_tdiv_le_natAbs (Sp.plT b i m) (Sp.plQ b)
     rw[eQ2]
     generalize Sp.plX b (Sp.plK b i) m*(Sp.plQ b-Sp.phF (Sp.pP b) i)=u at*
     generalize Sp.plX b (Sp.plK b i+1) m*Sp.phF (Sp.pP b) i=v at*
     have room:∀z:List C,(((Sp.frs (Sp.pR b) i++Sp.frR (Sp.pR b) i m++[z]).length:Int))*(4:Nat)≤140737488355328:=fun z=>by
      simp only[List.length_append,List.length_singleton,Sp.frR_len]; omega
     have nx:∀z:Int,z=Sp.plT b i m/Sp.plQ b→Sp.frs (Sp.pR b) i++Sp.frR (Sp.pR b) i m++[[C.i (iWrap .i32 z)]]=Sp.frs (Sp.pR b) i++Sp.frR (Sp.pR b) i (m+1):=fun z hz=>by
      rw[Sp.frR_s _ m0,eS,hz,List.append_assoc]
     refine⟨rng (by omega) (by omega),rng (by omega) (by omega),⟨m0,hc⟩,fun _=>⟨rng (by omega) (by omega),rng (by omega) (by omega),⟨by omega,rng (by omega) (by omega)⟩,rng (by omega) (by omega),⟨by omega,rng (by omega) (by omega)⟩,by omega,?_,?_⟩⟩
     · exact fun h5=>⟨rng (by omega) (by omega),room _,rng (by omega) (by omega),(m+1,_),⟨by simp only; omega,by simp only; omega,nx _ (tf.1 h5)⟩,rfl,rfl,by simp only; omega⟩
     · exact fun h5=>⟨room _,rng (by omega) (by omega),(m+1,_),⟨by simp only; omega,by simp only; omega,nx _ (tf.2 h5)⟩,rfl,rfl,by simp only; omega⟩
   · simp only; rw[Sp.frs_s _ i0,show m=qi 0 (Sp.pR b) by omega]
 · have ei:i=Sp.plM b n:=by omega
   subst ei
   have eV:Sp.avV (Sp.pP b) (Sp.plM b n)=[.i (qi 0 (Sp.pP b)),.i (qi 1 (Sp.pP b)),.i (qi 2 (Sp.pP b)),.i (Sp.phX (Sp.pP b) (Sp.plM b n)),.i (Sp.phF (Sp.pP b) (Sp.plM b n))]:=if_pos h3
   have eX:qi 3 (Sp.avV (Sp.pP b) (Sp.plM b n))-qi 3 (Sp.pP b)=Sp.frK (Sp.pR b) (Sp.plM b n):=by rw[eV]; exact eK
   have g:=Sp.psG_bd q.1 (n:=Sp.plM b n) (by omega) (by omega)
   have eG:min ((ql 11 b).length:Int) (Sp.frK (Sp.pR b) (Sp.plM b n)*qi 5 b)=Sp.psG (Sp.pR b) (Sp.plM b n):=by
    unfold Sp.psG
    rw[Sp.min_mul (by omega),l1,Int.mul_comm (qi 5 b),Int.min_comm]; rfl
   have fb:=mul_bd (x:=Sp.frK (Sp.pR b) (Sp.plM b n)) (X:=4000000000000000) (y:=qi 5 b) (Y:=8) K0.1 K0.2 (by omega) (by omega)
   have ez:Sp.psV (Sp.pR b) (Sp.plM b n)=sga 0 [0,0,0,0] (Sp.pR b) [.i (Sp.phX (Sp.pP b) (Sp.plM b n)),.i (Sp.phF (Sp.pP b) (Sp.plM b n)),.l (cutRows (ql 11 b) (some (Sp.psG (Sp.pR b) (Sp.plM b n))) none)]:=by
    unfold Sp.psV; rw[if_pos (by omega),er]; rfl
   have ec:=Int.mul_comm (n-Sp.plM b n) (qi 5 b)
   have gl:Sp.psG (Sp.pR b) (Sp.plM b n)≤(ql 11 b).length:=g.2.2.2.1
   rw[eX,eG,ec,Sp.wrapi (e:=qi 5 b*(n-Sp.plM b n)) (by omega) (by omega),y.1,y.2.1,y.2.2.1,y.2.2.2,eV,ez]
   exact⟨rng (by omega) (by omega),rng (by omega) (by omega),⟨g.2.2.1,gl⟩,by simp only[cutRows,List.length_drop]; omega,fun _=>⟨⟨by omega,by omega⟩,rfl,rfl,rfl,rfl,e0.symm⟩⟩
def r122:Cr PR:=Kw (fun ff=>Nat.beq ff 122) [r128,r185,r187,r186,r188,r197,r236,r264,r265,r266,r117] 122 6 {ps:=[(true,hG),(false,hI)],rs:=[(true,[.int .i64,.sl hW]),(false,hI),(true,hG),(false,hI)],pre:=fun _=>True,out:=fun a=>[[.i (Sp.plC (arg 0 a) (I a 1 0)),.l (Sp.plD (arg 0 a) (I a 1 0))],[.i (Sp.plN (arg 0 a) (I a 1 0))],rb [0,0,0,0,0,0,0,0,0,0,0,3,0,0] (Sp.plV (arg 0 a) (I a 1 0)),[.i (Sp.plE (arg 0 a) (I a 1 0))]]} (fun a=>A122 (arg 0 a) (I a 1 0)) fun a=>Y (v122 (arg 0 a) (I a 1 0))
end Go.Sx

