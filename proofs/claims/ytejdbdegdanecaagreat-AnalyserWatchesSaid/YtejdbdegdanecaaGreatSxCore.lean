import Derived.WalkKit
import Derived.Orders
set_option linter.unusedVariables false
set_option linter.unusedSimpArgs false
namespace Go.Sx
open Go.RowKit
inductive Sh where
 |int (k:IntKind)|bool|str|sl (e:List Sh)
 deriving Inhabited
inductive C where
 |i (n:Int)|b (x:Bool)|s (x:ByteArray)|l (xs:List (List C))
 deriving Inhabited
def C.int:C->Int| .i n=>n|_=>0
def C.bool:C->Bool| .b x=>x|_=>false
def C.str:C->ByteArray| .s x=>x|_=>ByteArray.empty
def C.list:C->List (List C)| .l xs=>xs|_=>[]
inductive SV where
 |any|undef
 |int (k:IntKind) (n:Int)|lit (k:IntKind) (n:Int)
 |bool (b:Bool)|blit (b:Bool)
 |str (s:ByteArray)
 |agg (cs:List SV)|tup (cs:List SV)
 |sl (e:List Sh) (xs:List (List C))
 |slc (e:List Sh) (xs:List (List C))
 |nils
 |slit (n sz:Nat) (cs:List SV)
 |ref (k off:Nat)
 |cref (cs:List SV)
 |nilp
 |own (k c:Nat)
 |ownl (k c:Nat) (xs:List (List C))
 |rref (k c sz:Nat) (i:Int) (off:Nat)
 |ownv (k c sz:Nat) (lo:Option Int) (n:Int)
 |emp
 |fn (f:Nat) (cs:List SV)
 |nilq (xs:List (List C))
 deriving Inhabited
structure Vw where
 w:World
 D:Nat->Prop
 L:Nat->Prop
 c:Nat->Nat
 p:Nat->Value
 bad:Nat->Prop
def blkOf:Value->Option Nat
 | .pointer (some a)=>some a.block
 | .slice (some a) _ cap=>if cap=0 then none else some a.block
 | .map (some b)=>some b
 |_=>none
def Vw.ok (V:Vw) (b:Nat):Prop:=b<V.w.heap.size/\¬V.bad b/\∀k,V.D k->V.L k->blkOf (V.p k)≠some b
mutual
def RepC (w:World) (ok:Nat->Prop):Sh->C->Value->Prop
 | .int k,c,v=>v= .int k c.int
 | .bool,c,v=>v= .bool c.bool
 | .str,c,v=>v= .string c.str
 | .sl e,c,v=>∃a n cap,v= .slice a n cap/\n<=cap/\cap<=maxLen/\n=c.list.length/\
  (n=0∨∃b o,a=some ⟨b,o,none⟩/\ok b/\∀i,i<n->RepCs w ok e (c.list.getD i []) b (o+i*e.length))
def RepCs (w:World) (ok:Nat->Prop):List Sh->List C->Nat->Nat->Prop
 |[],_,_,_=>True
 |s::r,cs,b,o=>(∃u,w.cell? ⟨b,o,none⟩=some u/\u.oneCell'=true/\RepC w ok s (cs.headD default) u)/\RepCs w ok r cs.tail b (o+1)
end
mutual
def VR (V:Vw):SV->Value->Prop
 | .any,_=>True
 | .undef,v=>v=Go.undef
 | .int k n,v=>v= .int k n
 | .lit k n,v=>v= .int k n
 | .bool b,v=>v= .bool b
 | .blit b,v=>v= .bool b
 | .str s,v=>v= .string s
 | .agg cs,v=>∃vs,v= .agg vs.toArray/\(∀u∈vs,u.oneCell'=true)/\VRs V cs vs
 | .tup cs,v=>∃vs,v= .tuple vs.toArray/\VRs V cs vs
 | .sl e xs,v=>RepC V.w V.ok (.sl e) (.l xs) v
 | .slc e xs,v=>RepC V.w V.ok (.sl e) (.l xs) v/\∃a n,v= .slice a n n
 | .nils,v=>v= .slice none 0 0
 | .slit n sz cs,v=>∃a cap,v= .slice a n cap/\n<=cap/\cap<=maxLen/\cs.length=n*sz/\∃b o,a=some ⟨b,o,none⟩/\V.ok b/\VRc V cs b o
 | .ref k off,v=>V.D k/\∃b,V.p k= .pointer (some ⟨b,0,none⟩)/\v= .pointer (some ⟨b,off,none⟩)
 | .cref cs,v=>∃b o,v= .pointer (some ⟨b,o,none⟩)/\V.ok b/\VRc V cs b o
 | .nilp,v=>v= .pointer none
 | .own k c,v=>V.D k/\c<=V.c k/\((∃a n m,v= .slice a n m)∨∃b,v= .map (some b))/\(c=V.c k->v=V.p k)
 | .ownl k c xs,v=>(V.D k/\c<=V.c k/\((∃a n m,v= .slice a n m)∨∃b,v= .map (some b))/\(c=V.c k->v=V.p k))/\∃a m,v= .slice a xs.length m
 | .rref k c sz i off,v=>V.D k/\c<=V.c k/\(∃g o,v= .pointer (some ⟨g,o,none⟩))/\(c=V.c k->∃b n cap,V.p k= .slice (some ⟨b,0,none⟩) n cap/\0<=i/\i<(n:Int)/\v= .pointer (some ⟨b,i.toNat*sz+off,none⟩))
 | .ownv k c sz lo n,v=>V.D k/\c<=V.c k/\(∃a m q,v= .slice a m q)/\(c=V.c k->∃a N cap,V.p k= .slice a N cap/\0<=lo.getD 0/\0<=n/\lo.getD 0+n<=(N:Int)/\v= .slice (if cap=(lo.getD 0).toNat then a else a.map (·.add ((lo.getD 0).toNat*sz))) n.toNat (cap- (lo.getD 0).toNat))
 | .emp,v=>∃a,v= .slice a 0 0
 | .fn f cs,v=>∃vs,v= .func (.func f) #[] vs.toArray/\VRs V cs vs
 | .nilq xs,v=>∃b,v= .bool b/\(b=true->xs=[])
def VRs (V:Vw):List SV->List Value->Prop
 |[],vs=>vs=[]
 |c::cs,vs=>∃v r,vs=v::r/\VR V c v/\VRs V cs r
def VRc (V:Vw):List SV->Nat->Nat->Prop
 |[],_,_=>True
 |c::cs,b,o=>(∃u,V.w.cell? ⟨b,o,none⟩=some u/\u.oneCell'=true/\VR V c u)/\VRc V cs b (o+1)
end
inductive HB where
 |box (cells:List SV) (t:TypeId)
 |row (e:List Sh) (t:TypeId) (c:Nat) (xs:List (List C))
 |froz (e:List Sh) (c:Nat) (xs:List (List C))
 |mp (kt:IntKind) (g:Bool) (e:List Sh) (c:Nat) (xs:List (Int×List C))
 |hrow (t:TypeId) (c n:Nat) (i:Int) (x:SV) (f:Nat->Value)
 |gone
 deriving Inhabited
theorem add_mk (b o n:Nat):(⟨b,o,none⟩:Addr).add n=⟨b,o+n,none⟩:=by
 unfold Addr.add; split
 · simp_all
 · rfl
mutual
theorem RepC.mono {w w':World} {ok ok':Nat->Prop} (h:∀b,ok b->ok' b/\w'.heap[b]? =w.heap[b]?):∀(s:Sh) (c:C) (v:Value),RepC w ok s c v->RepC w' ok' s c v
 | .int k,c,v=>λh=>by simpa only[RepC]using h
 | .bool,c,v=>λh=>by simpa only[RepC]using h
 | .str,c,v=>λh=>by simpa only[RepC]using h
 | .sl e,c,v=>λhr=>by
  simp only[RepC]at hr ⊢;obtain⟨a,n,cap,hv,h1,h2,h3,h4⟩:=hr;refine⟨a,n,cap,hv,h1,h2,h3,?_⟩;rcases h4 with h4|⟨b,o,ha,hb,hc⟩
  · exact .inl h4
  · exact .inr ⟨b,o,ha,(h b hb).1,λi hi=>RepCs.mono h e _ b _ hb (hc i hi)⟩
theorem RepCs.mono {w w':World} {ok ok':Nat->Prop} (h:∀b,ok b->ok' b/\w'.heap[b]? =w.heap[b]?):∀(e:List Sh) (cs:List C) (b o:Nat),ok b->RepCs w ok e cs b o->RepCs w' ok' e cs b o
 |[],_,_,_=>λ_ _=>by simp only[RepCs]
 |s::r,cs,b,o=>λhb hr=>by
  simp only[RepCs]at hr ⊢;obtain⟨⟨u,hu,h1,h2⟩,h3⟩:=hr;exact⟨⟨u,by rw[World.cell?_of_block (w:=w) (h b hb).2]; exact hu,h1,RepC.mono h s _ u h2⟩,RepCs.mono h r _ b _ hb h3⟩
end
structure AhB (V V':Vw):Prop where
 D:∀k,V.D k->V'.D k
 c:∀k,V.D k->V.c k<=V'.c k
 p:∀k,V.D k->V'.c k=V.c k->V'.p k=V.p k
 pp:∀k a,V.D k->V.p k= .pointer a->V'.p k= .pointer a
 ok:∀b,V.ok b->V'.ok b/\V'.w.heap[b]? =V.w.heap[b]?
mutual
theorem VR.mono {V V':Vw} (h:AhB V V'):∀(s:SV) (v:Value),VR V s v->VR V' s v
 | .any,v=>λ_=>by simp only[VR]
 | .undef,v=>λh=>by simpa only[VR]using h
 | .int k n,v=>λh=>by simpa only[VR]using h
 | .lit k n,v=>λh=>by simpa only[VR]using h
 | .bool b,v=>λh=>by simpa only[VR]using h
 | .blit b,v=>λh=>by simpa only[VR]using h
 | .str s,v=>λh=>by simpa only[VR]using h
 | .agg cs,v=>λhr=>by
  simp only[VR]at hr ⊢;obtain⟨vs,hv,h1,hs⟩:=hr;exact⟨vs,hv,h1,VRs.mono h cs vs hs⟩
 | .tup cs,v=>λhr=>by
  simp only[VR]at hr ⊢;obtain⟨vs,hv,hs⟩:=hr;exact⟨vs,hv,VRs.mono h cs vs hs⟩
 | .sl e xs,v=>λhr=>by
  simp only[VR]at hr ⊢;exact RepC.mono h.ok _ _ _ hr
 | .slc e xs,v=>λhr=>by
  simp only[VR]at hr ⊢;exact⟨RepC.mono h.ok _ _ _ hr.1,hr.2⟩
 | .nilq xs,v=>λh=>by simpa only[VR]using h
 | .nils,v=>λh=>by simpa only[VR]using h
 | .slit n sz cs,v=>λhr=>by
  simp only[VR]at hr ⊢;obtain⟨a,cap,hv,h1,h2,h3,b,o,ha,hb,hc⟩:=hr;exact⟨a,cap,hv,h1,h2,h3,b,o,ha,(h.ok b hb).1,VRc.mono h cs b o hb hc⟩
 | .ref k off,v=>λhr=>by
  simp only[VR]at hr ⊢;obtain⟨hd,b,hp,hv⟩:=hr;exact⟨h.D k hd,b,h.pp k _ hd hp,hv⟩
 | .cref cs,v=>λhr=>by
  simp only[VR]at hr ⊢;obtain⟨b,o,hv,hb,hc⟩:=hr;exact⟨b,o,hv,(h.ok b hb).1,VRc.mono h cs b o hb hc⟩
 | .nilp,v=>λh=>by simpa only[VR]using h
 | .own k c,v=>λhr=>by
  simp only[VR]at hr ⊢;obtain⟨hd,hc,h1,h2⟩:=hr;have hcc:=h.c k hd;exact⟨h.D k hd,by omega,h1,λhe=>by rw[h.p k hd (by omega)]; exact h2 (by omega)⟩
 | .ownl k c xs,v=>λhr=>by
  simp only[VR]at hr ⊢;obtain⟨⟨hd,hc,h1,h2⟩,h3⟩:=hr;have hcc:=h.c k hd;exact⟨⟨h.D k hd,by omega,h1,λhe=>by rw[h.p k hd (by omega)]; exact h2 (by omega)⟩,h3⟩
 | .rref k c sz i off,v=>λhr=>by
  simp only[VR]at hr ⊢;obtain⟨hd,hc,h1,h2⟩:=hr;have hcc:=h.c k hd;exact⟨h.D k hd,by omega,h1,λhe=>by rw[h.p k hd (by omega)]; exact h2 (by omega)⟩
 | .ownv k c sz lo n,v=>λhr=>by
  simp only[VR]at hr ⊢;obtain⟨hd,hc,h1,h2⟩:=hr;have hcc:=h.c k hd;exact⟨h.D k hd,by omega,h1,λhe=>by rw[h.p k hd (by omega)]; exact h2 (by omega)⟩
 | .emp,v=>λh=>by simpa only[VR]using h
 | .fn f cs,v=>λhr=>by
  simp only[VR]at hr ⊢;obtain⟨vs,hv,hs⟩:=hr;exact⟨vs,hv,VRs.mono h cs vs hs⟩
theorem VRs.mono {V V':Vw} (h:AhB V V'):∀(cs:List SV) (vs:List Value),VRs V cs vs->VRs V' cs vs
 |[],vs=>λh=>by simpa only[VRs]using h
 |c::cs,vs=>λhr=>by
  simp only[VRs]at hr ⊢;obtain⟨v,r,hv,h1,h2⟩:=hr;exact⟨v,r,hv,VR.mono h c v h1,VRs.mono h cs r h2⟩
theorem VRc.mono {V V':Vw} (h:AhB V V'):∀(cs:List SV) (b o:Nat),V.ok b->VRc V cs b o->VRc V' cs b o
 |[],_,_=>λ_ _=>by simp only[VRc]
 |c::cs,b,o=>λhb hr=>by
  simp only[VRc]at hr ⊢;obtain⟨⟨u,hu,h1,h2⟩,h3⟩:=hr;exact⟨⟨u,by rw[World.cell?_of_block (w:=V.w) (h.ok b hb).2]; exact hu,h1,VR.mono h c u h2⟩,VRc.mono h cs b _ hb h3⟩
end
theorem AgA {V V':Vw} (h:V'.bad=V.bad):∀b,(V.bad b->V'.bad b)/\(V'.bad b->V.bad b∨V.w.heap.size<=b/\b<V'.w.heap.size):=λb=>by rw[h]; exact⟨id,.inl⟩
structure Grow (V V':Vw) (W:List Nat):Prop where
 os:V'.w.os=V.w.os
 tape:V'.w.tape=V.w.tape
 output:V'.w.output=V.w.output
 bad:∀b,(V.bad b->V'.bad b)/\(V'.bad b->V.bad b∨V.w.heap.size<=b/\b<V'.w.heap.size)
 size:V.w.heap.size<=V'.w.heap.size
 D:∀k,V.D k->V'.D k
 c:∀k,V.D k->V.c k<=V'.c k
 p:∀k,V.D k->V'.c k=V.c k->V'.p k=V.p k
 pp:∀k a,V.D k->V.p k= .pointer a->V'.p k= .pointer a
 L:∀k,V.D k->V'.L k->V.L k
 mv:∀k,V.D k->V'.L k->∀b,blkOf (V'.p k)=some b->blkOf (V.p k)=some b∨V.w.heap.size<=b
 blk:∀b,b<V.w.heap.size->(∀k,k∈W->V.D k->V.L k->blkOf (V.p k)≠some b)->V'.w.heap[b]? =V.w.heap[b]?
 new:∀k,V'.D k->V'.L k->¬V.D k->∀b,blkOf (V'.p k)=some b->V.w.heap.size<=b
theorem Grow.ok {V V':Vw} {W:List Nat} (h:Grow V V' W) (b:Nat) (hb:V.ok b):V'.ok b/\V'.w.heap[b]? =V.w.heap[b]? :=by
 refine⟨⟨Nat.lt_of_lt_of_le hb.1 h.size,λhx=>((h.bad b).2 hx).elim hb.2.1 λh2=>by have:=hb.1; omega,λk hk hl he=> ?_⟩,h.blk b hb.1 λk _ hd hl=>hb.2.2 k hd hl⟩;by_cases hd:V.D k
 · rcases h.mv k hd hl b he with h1|h1
   · exact hb.2.2 k hd (h.L k hd hl) h1
   · have:=hb.1; omega
 · have:=h.new k hk hl hd b he;have:=hb.1;omega
theorem Grow.stays {V V':Vw} {W:List Nat} (h:Grow V V' W):AhB V V':=⟨h.D,h.c,h.p,h.pp,λb hb=>h.ok b hb⟩
theorem Grow.refl (V:Vw) (W:List Nat):Grow V V W:=⟨rfl,rfl,rfl,AgA rfl,Nat.le_refl _,λ_ h=>h,λ_ _=>Nat.le_refl _,λ_ _ _=>rfl,λ_ _ _ h=>h,λ_ _ h=>h,λ_ _ _ _ h=> .inl h,λ_ _ _=>rfl,λ_ h _ h'=>(h' h).elim⟩
theorem Grow.trans {V V' V'':Vw} {W W':List Nat} (h:Grow V V' W) (h':Grow V' V'' W') (hW:∀k,k∈W'->V.D k->k∈W):Grow V V'' W where
 os:=h'.os.trans h.os
 tape:=h'.tape.trans h.tape
 output:=h'.output.trans h.output
 bad b:=⟨λhx=>(h'.bad b).1 ((h.bad b).1 hx),λhx=>((h'.bad b).2 hx).elim (λh1=>((h.bad b).2 h1).imp id λh2=>⟨h2.1,Nat.lt_of_lt_of_le h2.2 h'.size⟩) λh1=> .inr ⟨Nat.le_trans h.size h1.1,h1.2⟩⟩
 size:=Nat.le_trans h.size h'.size
 D k hk:=h'.D k (h.D k hk)
 c k hk:=Nat.le_trans (h.c k hk) (h'.c k (h.D k hk))
 p k hk he:=by
  have h1:=h.c k hk;have h2:=h'.c k (h.D k hk);rw[h'.p k (h.D k hk) (by omega),h.p k hk (by omega)]
 pp k a hk he:=h'.pp k a (h.D k hk) (h.pp k a hk he)
 L k hk hl:=h.L k hk (h'.L k (h.D k hk) hl)
 mv k hk hl b hb:=by
  rcases h'.mv k (h.D k hk) hl b hb with h1|h1
  · exact h.mv k hk (h'.L k (h.D k hk) hl) b h1
  · exact .inr (Nat.le_trans h.size h1)
 blk b hb hk:=by
  rw[h'.blk b (Nat.lt_of_lt_of_le hb h.size) λk hkW hkD hkL=> ?_]
  · exact h.blk b hb hk
  · intro he;by_cases hd:V.D k
    · rcases h.mv k hd hkL b he with h1|h1
      · exact hk k (hW k hkW hd) hd (h.L k hd hkL) h1
      · omega
    · have:=h.new k hkD hkL hd b he;omega
 new k hk hl hn b hb:=by
  by_cases hd:V'.D k
  · rcases h'.mv k hd hl b hb with h1|h1
    · exact h.new k hd (h'.L k hd hl) hn b h1
    · exact Nat.le_trans h.size h1
  · exact Nat.le_trans h.size (h'.new k hk hl hd b hb)
theorem Grow.mono {V V':Vw} {W W':List Nat} (h:Grow V V' W) (hW:∀k,k∈W->k∈W'):Grow V V' W':=
 {h with blk:=λb hb hk=>h.blk b hb λk hkW=>hk k (hW k hkW)}
def RepVs (w:World) (ok:Nat->Prop):List Sh->List C->List Value->Prop
 |[],_,us=>us=[]
 |s::r,cs,us=>∃u t,us=u::t/\u.oneCell'=true/\RepC w ok s (cs.headD default) u/\RepVs w ok r cs.tail t
def RepRow (w:World) (ok:Nat->Prop) (e:List Sh):List (List C)->List Value->Prop
 |[],us=>us=[]
 |x::r,us=>∃h t,us=h++t/\RepVs w ok e x h/\RepRow w ok e r t
theorem RepVs.mono {w w':World} {ok ok':Nat->Prop} (h:∀b,ok b->ok' b/\w'.heap[b]? =w.heap[b]?):∀(e:List Sh) (cs:List C) (us:List Value),RepVs w ok e cs us->RepVs w' ok' e cs us
 |[],_,_=>λh=>h
 |s::r,cs,us=>fun⟨u,t,he,h1,h2,h3⟩=>⟨u,t,he,h1,RepC.mono h s _ u h2,RepVs.mono h r _ t h3⟩
theorem RepRow.mono {w w':World} {ok ok':Nat->Prop} (h:∀b,ok b->ok' b/\w'.heap[b]? =w.heap[b]?) (e:List Sh):∀(xs:List (List C)) (us:List Value),RepRow w ok e xs us->RepRow w' ok' e xs us
 |[],_=>λh=>h
 |_::r,_=>fun⟨a,t,he,h1,h2⟩=>⟨a,t,he,RepVs.mono h e _ a h1,RepRow.mono h e r t h2⟩
def OwnRow (w:World) (t:TypeId) (sz:Nat) (v:Value) (n:Nat) (us:List Value):Prop:=
  us.length=n*sz/\
  ((n=0/\∃a,v= .slice a 0 0)∨
   ∃g cap cur,v= .slice (some ⟨g,0,none⟩) n cap/\0<cap/\w.heap[g]? =some (.cells cur t (0,0))/\n<=cap/\cap<=maxLen/\cur.size=cap*sz/\cur.toList.take (n*sz)=us)
def Ahi (w:World) (ok:Nat->Prop) (kt:IntKind) (g:Bool) (e:List Sh) (x:Int×List C) (m:MapEntry):Prop:=
 m.key= .int kt x.1/\∃us,RepVs w ok e x.2 us/\m.val=bif g then .agg us.toArray else us.headD Go.undef
def EntsRep (w:World) (ok:Nat->Prop) (kt:IntKind) (g:Bool) (e:List Sh):List (Int×List C)->List MapEntry->Prop
 |[],ms=>ms=[]
 |x::r,ms=>∃m t,ms=m::t/\Ahi w ok kt g e x m/\EntsRep w ok kt g e r t
theorem EntsRep.mono {w w':World} {ok ok':Nat->Prop} (h:∀b,ok b->ok' b/\w'.heap[b]? =w.heap[b]?) {kt:IntKind} {g:Bool} {e:List Sh}:∀(xs:List (Int×List C)) (ms:List MapEntry),EntsRep w ok kt g e xs ms->EntsRep w' ok' kt g e xs ms
 |[],_=>λh=>h
 |_::r,_=>fun⟨m,t,he,⟨hk,us,hr,hv⟩,h2⟩=>⟨m,t,he,⟨hk,us,RepVs.mono h e _ us hr,hv⟩,EntsRep.mono h r t h2⟩
def HBRep (V:Vw) (k:Nat):HB->Prop
 | .box cells t=>V.L k/\∃b vs,V.p k= .pointer (some ⟨b,0,none⟩)/\V.w.heap[b]? =some (.cells vs.toArray t (0,0))/\(∀v∈vs,v.oneCell'=true)/\VRs V cells vs
 | .row e t c xs=>V.L k/\V.c k=c/\∃n us,OwnRow V.w t e.length (V.p k) n us/\n=xs.length/\RepRow V.w V.ok e xs us
 | .froz e c xs=>V.c k=c/\RepC V.w V.ok (.sl e) (.l xs) (V.p k)
 | .mp kt g e c xs=>V.L k/\V.c k=c/\∃b es clock,V.p k= .map (some b)/\V.w.heap[b]? =some (.map es clock)/\EntsRep V.w V.ok kt g e xs es.toList
 | .hrow t c n i x f=>V.L k/\V.c k=c/\∃us,OwnRow V.w t 1 (V.p k) n us/\(∀u∈us,u.oneCell'=true)/\∀j,j<n->((j:Int)=i->∀u,us[j]? =some u->VR V x u)/\((j:Int)≠i->us[j]? =some (f j))
 | .gone=>False
structure Heap (V:Vw) (H:Nat->Option HB):Prop where
 rep:∀k,V.D k->∃hb,H k=some hb/\HBRep V k hb
 lt:∀k b,V.D k->V.L k->blkOf (V.p k)=some b->b<V.w.heap.size
 bd:∀b,V.bad b->b<V.w.heap.size
 nb:∀k b,V.D k->V.L k->blkOf (V.p k)=some b->¬V.bad b
 inj:∀k k' b,V.D k->V.L k->V.D k'->V.L k'->blkOf (V.p k)=some b->blkOf (V.p k')=some b->k=k'
end Go.Sx

