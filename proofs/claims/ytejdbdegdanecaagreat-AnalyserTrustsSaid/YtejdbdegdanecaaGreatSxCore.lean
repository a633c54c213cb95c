import Derived.WalkKit
import Derived.Orders
namespace Go
theorem AlC:type_of% @Option.some.injEq:=@Option.some.injEq
theorem AlD:type_of% @decide_eq_false_iff_not:=@decide_eq_false_iff_not
theorem AlE:type_of% @decide_eq_true_eq:=@decide_eq_true_eq
theorem AlF:type_of% @List.length_append:=@List.length_append
theorem AlG:type_of% @Bool.and_eq_true:=@Bool.and_eq_true
theorem AlH:type_of% @Prod.mk.injEq:=@Prod.mk.injEq
theorem AlI:type_of% @Int.tdiv_eq_ediv_of_nonneg:=@Int.tdiv_eq_ediv_of_nonneg
theorem AlJ:type_of% @List.length_singleton:=@List.length_singleton
theorem AlK:type_of% @decide_eq_false:=@decide_eq_false
theorem AlL:type_of% @decide_eq_true:=@decide_eq_true
theorem AlM:type_of% @Option.map_some:=@Option.map_some
theorem AlN:type_of% @List.length_take:=@List.length_take
theorem AlO:type_of% @Int.le_refl:=@Int.le_refl
theorem AlP:type_of% @List.drop_eq_nil_of_le:=@List.drop_eq_nil_of_le
theorem AlQ:type_of% @Bool.and_false:=@Bool.and_false
theorem AlR:type_of% @Bool.true_and:=@Bool.true_and
theorem AlS:type_of% @Int.mul_le_mul_of_nonneg_right:=@Int.mul_le_mul_of_nonneg_right
theorem AlT:type_of% @Nat.le_refl:=@Nat.le_refl
theorem AlU:type_of% @List.getD_cons_succ:=@List.getD_cons_succ
theorem AlV:type_of% @Array.toArray_toList:=@Array.toArray_toList
theorem AlW:type_of% @Bool.false_eq_true:=@Bool.false_eq_true
theorem AlX:type_of% @Bool.true_eq_false:=@Bool.true_eq_false
theorem AlY:type_of% @List.mem_append:=@List.mem_append
theorem AlZ:type_of% @List.take_of_length_le:=@List.take_of_length_le
theorem Al0:type_of% @Int.mul_le_mul_of_nonneg_left:=@Int.mul_le_mul_of_nonneg_left
theorem Al1:type_of% @Int.mul_nonneg:=@Int.mul_nonneg
theorem Al2:type_of% @List.getD_cons_zero:=@List.getD_cons_zero
theorem Al3:type_of% @List.mem_of_mem_drop:=@List.mem_of_mem_drop
theorem Al4:type_of% @List.headD_cons:=@List.headD_cons
theorem Al5:type_of% @List.length_map:=@List.length_map
theorem Al6:type_of% @List.all_eq_true:=@List.all_eq_true
theorem Al7:type_of% @List.mem_of_mem_take:=@List.mem_of_mem_take
theorem Al8:type_of% @Int.ediv_nonneg:=@Int.ediv_nonneg
theorem Al9:type_of% @List.length_cons:=@List.length_cons
theorem Ama:type_of% @List.set_cons_zero:=@List.set_cons_zero
theorem Amb:type_of% @of_decide_eq_true:=@of_decide_eq_true
theorem Amc:type_of% @Int.toNat_of_nonneg:=@Int.toNat_of_nonneg
theorem Amd:type_of% @List.mem_cons:=@List.mem_cons
theorem Ame:type_of% @List.append_nil:=@List.append_nil
theorem Amf:type_of% @Int.eq_ofNat_of_zero_le:=@Int.eq_ofNat_of_zero_le
theorem Amg:type_of% @Nat.lt_of_lt_of_le:=@Nat.lt_of_lt_of_le
theorem Amh:type_of% @Nat.add_comm:=@Nat.add_comm
theorem Ami:type_of% @Nat.add_assoc:=@Nat.add_assoc
theorem Amj:type_of% @Option.getD_some:=@Option.getD_some
theorem Amk:type_of% @List.length_drop:=@List.length_drop
theorem Aml:type_of% @Int.emod_lt_of_pos:=@Int.emod_lt_of_pos
theorem Amm:type_of% @List.mem_of_getElem?:=@List.mem_of_getElem?
theorem Amn:type_of% @List.append_assoc:=@List.append_assoc
theorem Amo:type_of% @Int.mul_comm:=@Int.mul_comm
theorem Amq:type_of% @Bool.not_true:=@Bool.not_true
theorem Amr:type_of% @Int.natCast_add:=@Int.natCast_add
theorem Ams:type_of% @Bool.not_eq_true':=@Bool.not_eq_true'
theorem Amt:type_of% @Int.add_mul:=@Int.add_mul
theorem Amu:type_of% @List.set_cons_succ:=@List.set_cons_succ
theorem Amv:type_of% @Bool.not_eq_false':=@Bool.not_eq_false'
theorem Amw:type_of% @List.mem_or_eq_of_mem_set:=@List.mem_or_eq_of_mem_set
theorem Amx:type_of% @List.length_replicate:=@List.length_replicate
theorem Amy:type_of% @Int.ediv_le_self:=@Int.ediv_le_self
theorem Amz:type_of% @Nat.add_mul:=@Nat.add_mul
theorem AmA:type_of% @Array.getD_eq_getD_getElem?:=@Array.getD_eq_getD_getElem?
theorem AmB:type_of% @Int.emod_nonneg:=@Int.emod_nonneg
theorem AmC:type_of% @Nat.add_zero:=@Nat.add_zero
theorem AmD:type_of% @List.tail_cons:=@List.tail_cons
theorem AmE:type_of% @Bool.not_false:=@Bool.not_false
theorem AmF:type_of% @Int.fdiv_eq_ediv_of_nonneg:=@Int.fdiv_eq_ediv_of_nonneg
theorem AmG:type_of% @Option.bind_some:=@Option.bind_some
theorem AmH:type_of% @List.eq_nil_of_length_eq_zero:=@List.eq_nil_of_length_eq_zero
theorem AmI:type_of% @List.range_succ:=@List.range_succ
theorem AmJ:type_of% @Array.length_toList:=@Array.length_toList
theorem AmK:type_of% @Nat.zero_add:=@Nat.zero_add
theorem AmL:type_of% @List.flatMap_singleton:=@List.flatMap_singleton
theorem AmM:type_of% @Int.toNat_natCast:=@Int.toNat_natCast
theorem AmN:type_of% @List.map_append:=@List.map_append
theorem AmO:type_of% @List.mem_replicate:=@List.mem_replicate
theorem AmP:type_of% @Int.tmod_eq_emod_of_nonneg:=@Int.tmod_eq_emod_of_nonneg
theorem AmQ:type_of% @List.map_cons:=@List.map_cons
theorem AmR:type_of% @Int.one_mul:=@Int.one_mul
theorem AmS:type_of% @Bool.false_and:=@Bool.false_and
theorem AmT:type_of% @Nat.mul_le_mul_right:=@Nat.mul_le_mul_right
theorem AmU:type_of% @List.mem_map:=@List.mem_map
theorem AmV:type_of% @Nat.eq_of_beq_eq_true:=@Nat.eq_of_beq_eq_true
theorem AmW:type_of% @List.flatMap_append:=@List.flatMap_append
theorem AmX:type_of% @List.length_nil:=@List.length_nil
theorem AmY:type_of% @Int.mul_le_mul:=@Int.mul_le_mul
theorem AmZ:type_of% @Nat.lt_or_ge:=@Nat.lt_or_ge
theorem Am0:type_of% @List.length_set:=@List.length_set
theorem Am1:type_of% @Option.map_none:=@Option.map_none
theorem Am2:type_of% @List.length_eq_zero_iff:=@List.length_eq_zero_iff
theorem Am3:type_of% @List.mem_singleton:=@List.mem_singleton
theorem Am4:type_of% @Int.mul_assoc:=@Int.mul_assoc
theorem Am5:type_of% @Int.mul_right_comm:=@Int.mul_right_comm
theorem Am6:type_of% @Int.natCast_nonneg:=@Int.natCast_nonneg
theorem Am7:type_of% @Int.eq_of_mul_eq_mul_right:=@Int.eq_of_mul_eq_mul_right
theorem Am8:type_of% @List.sum_replicate_nat:=@List.sum_replicate_nat
theorem Am9:type_of% @Int.le_ediv_iff_mul_le:=@Int.le_ediv_iff_mul_le
theorem Ana:type_of% @List.size_toArray:=@List.size_toArray
theorem Anb:type_of% @List.all_cons:=@List.all_cons
theorem Anc:type_of% @Int.mul_ediv_add_emod:=@Int.mul_ediv_add_emod
theorem Ane:type_of% @List.map_singleton:=@List.map_singleton
theorem Anf:type_of% @List.getElem_mem:=@List.getElem_mem
theorem Ang:type_of% @List.length_flatten:=@List.length_flatten
theorem Anh:type_of% @Int.natCast_mul:=@Int.natCast_mul
theorem Ani:type_of% @Int.mul_ediv_cancel:=@Int.mul_ediv_cancel
theorem Anj:type_of% @List.length_zipWith:=@List.length_zipWith
theorem Ank:type_of% @Int.natCast_one:=@Int.natCast_one
theorem Anl:type_of% @Option.getD_none:=@Option.getD_none
theorem Anm:type_of% @List.map_replicate:=@List.map_replicate
theorem Ann:type_of% @Int.emod_add_mul_ediv:=@Int.emod_add_mul_ediv
theorem Ano:type_of% @List.set_append_right:=@List.set_append_right
theorem Anp:type_of% @Classical.byContradiction:=@Classical.byContradiction
theorem Anq:type_of% @List.drop_eq_getElem_cons:=@List.drop_eq_getElem_cons
theorem Anr:type_of% @Int.ediv_emod_unique:=@Int.ediv_emod_unique
theorem Ant:type_of% @Int.mul_ediv_cancel_left:=@Int.mul_ediv_cancel_left
theorem Anu:type_of% @List.cons_append:=@List.cons_append
theorem Anv:type_of% @List.drop_drop:=@List.drop_drop
theorem Anw:type_of% @Int.lt_or_eq_of_le:=@Int.lt_or_eq_of_le
theorem Anx:type_of% @Nat.min_eq_left:=@Nat.min_eq_left
theorem Anz:type_of% @List.take_take:=@List.take_take
theorem AnA:type_of% @Nat.one_mul:=@Nat.one_mul
theorem AnB:type_of% @Nat.le_trans:=@Nat.le_trans
end Go
set_option linter.unusedVariables false
set_option linter.unusedSimpArgs false
namespace Go.Sx
open Go.RowKit
inductive Sh where
 |int (k:IntKind)|bool|str|sl (e:List Sh)
 deriving Inhabited
inductive C where
 |i (n:Int)|b (x:Bool)|s (x:ByteArray)|l (xs:List (List C))
 deriving Inhabited
def C.int:C->Int| .i n=>n|_=>0
def C.bool:C->Bool| .b x=>x|_=>false
def C.str:C->ByteArray| .s x=>x|_=>ByteArray.empty
def C.list:C->List (List C)| .l xs=>xs|_=>[]
inductive SV where
 |any|undef
 |int (k:IntKind) (n:Int)|lit (k:IntKind) (n:Int)
 |bool (b:Bool)|blit (b:Bool)
 |str (s:ByteArray)
 |agg (cs:List SV)|tup (cs:List SV)
 |sl (e:List Sh) (xs:List (List C))
 |slc (e:List Sh) (xs:List (List C))
 |nils
 |slit (n sz:Nat) (cs:List SV)
 |ref (k off:Nat)
 |cref (cs:List SV)
 |nilp
 |own (k c:Nat)
 |ownl (k c:Nat) (xs:List (List C))
 |rref (k c sz:Nat) (i:Int) (off:Nat)
 |ownv (k c sz:Nat) (lo:Option Int) (n:Int)
 |emp
 |fn (f:Nat) (cs:List SV)
 |nilq (xs:List (List C))
 deriving Inhabited
structure Vw where
 w:World
 D:Nat->Prop
 L:Nat->Prop
 c:Nat->Nat
 p:Nat->Value
 bad:Nat->Prop
def blkOf:Value->Option Nat
 | .pointer (some a)=>some a.block
 | .slice (some a) _ cap=>if cap=0 then none else some a.block
 | .map (some b)=>some b
 |_=>none
def Vw.ok (V:Vw) (b:Nat):Prop:=b<V.w.heap.size/\¬V.bad b/\∀k,V.D k->V.L k->blkOf (V.p k)≠some b
mutual
def RepC (w:World) (ok:Nat->Prop):Sh->C->Value->Prop
 | .int k,c,v=>v= .int k c.int
 | .bool,c,v=>v= .bool c.bool
 | .str,c,v=>v= .string c.str
 | .sl e,c,v=>∃a n cap,v= .slice a n cap/\n<=cap/\cap<=maxLen/\n=c.list.length/\
  (n=0∨∃b o,a=some ⟨b,o,none⟩/\ok b/\∀i,i<n->RepCs w ok e (c.list.getD i []) b (o+i*e.length))
def RepCs (w:World) (ok:Nat->Prop):List Sh->List C->Nat->Nat->Prop
 |[],_,_,_=>True
 |s::r,cs,b,o=>(∃u,w.cell? ⟨b,o,none⟩=some u/\u.oneCell'=true/\RepC w ok s (cs.headD default) u)/\RepCs w ok r cs.tail b (o+1)
end
mutual
def VR (V:Vw):SV->Value->Prop
 | .any,_=>True
 | .undef,v=>v=Go.undef
 | .int k n,v=>v= .int k n
 | .lit k n,v=>v= .int k n
 | .bool b,v=>v= .bool b
 | .blit b,v=>v= .bool b
 | .str s,v=>v= .string s
 | .agg cs,v=>∃vs,v= .agg vs.toArray/\(∀u∈vs,u.oneCell'=true)/\VRs V cs vs
 | .tup cs,v=>∃vs,v= .tuple vs.toArray/\VRs V cs vs
 | .sl e xs,v=>RepC V.w V.ok (.sl e) (.l xs) v
 | .slc e xs,v=>RepC V.w V.ok (.sl e) (.l xs) v/\∃a n,v= .slice a n n
 | .nils,v=>v= .slice none 0 0
 | .slit n sz cs,v=>∃a cap,v= .slice a n cap/\n<=cap/\cap<=maxLen/\cs.length=n*sz/\∃b o,a=some ⟨b,o,none⟩/\V.ok b/\VRc V cs b o
 | .ref k off,v=>V.D k/\∃b,V.p k= .pointer (some ⟨b,0,none⟩)/\v= .pointer (some ⟨b,off,none⟩)
 | .cref cs,v=>∃b o,v= .pointer (some ⟨b,o,none⟩)/\V.ok b/\VRc V cs b o
 | .nilp,v=>v= .pointer none
 | .own k c,v=>V.D k/\c<=V.c k/\((∃a n m,v= .slice a n m)∨∃b,v= .map (some b))/\(c=V.c k->v=V.p k)
 | .ownl k c xs,v=>(V.D k/\c<=V.c k/\((∃a n m,v= .slice a n m)∨∃b,v= .map (some b))/\(c=V.c k->v=V.p k))/\∃a m,v= .slice a xs.length m
 | .rref k c sz i off,v=>V.D k/\c<=V.c k/\(∃g o,v= .pointer (some ⟨g,o,none⟩))/\(c=V.c k->∃b n cap,V.p k= .slice (some ⟨b,0,none⟩) n cap/\0<=i/\i<(n:Int)/\v= .pointer (some ⟨b,i.toNat*sz+off,none⟩))
 | .ownv k c sz lo n,v=>V.D k/\c<=V.c k/\(∃a m q,v= .slice a m q)/\(c=V.c k->∃a N cap,V.p k= .slice a N cap/\0<=lo.getD 0/\0<=n/\lo.getD 0+n<=(N:Int)/\v= .slice (if cap=(lo.getD 0).toNat then a else a.map (·.add ((lo.getD 0).toNat*sz))) n.toNat (cap- (lo.getD 0).toNat))
 | .emp,v=>∃a,v= .slice a 0 0
 | .fn f cs,v=>∃vs,v= .func (.func f) #[] vs.toArray/\VRs V cs vs
 | .nilq xs,v=>∃b,v= .bool b/\(b=true->xs=[])
def VRs (V:Vw):List SV->List Value->Prop
 |[],vs=>vs=[]
 |c::cs,vs=>∃v r,vs=v::r/\VR V c v/\VRs V cs r
def VRc (V:Vw):List SV->Nat->Nat->Prop
 |[],_,_=>True
 |c::cs,b,o=>(∃u,V.w.cell? ⟨b,o,none⟩=some u/\u.oneCell'=true/\VR V c u)/\VRc V cs b (o+1)
end
inductive HB where
 |box (cells:List SV) (t:TypeId)
 |row (e:List Sh) (t:TypeId) (c:Nat) (xs:List (List C))
 |froz (e:List Sh) (c:Nat) (xs:List (List C))
 |mp (kt:IntKind) (g:Bool) (e:List Sh) (c:Nat) (xs:List (Int×List C))
 |hrow (t:TypeId) (c n:Nat) (i:Int) (x:SV) (f:Nat->Value)
 |gone
 deriving Inhabited
theorem add_mk (b o n:Nat):(⟨b,o,none⟩:Addr).add n=⟨b,o+n,none⟩:=by
 unfold Addr.add; split
 · simp_all
 · rfl
mutual
theorem RepC.mono {w w':World} {ok ok':Nat->Prop} (h:∀b,ok b->ok' b/\w'.heap[b]? =w.heap[b]?):∀(s:Sh) (c:C) (v:Value),RepC w ok s c v->RepC w' ok' s c v
 | .int k,c,v=>λh=>by simpa only[RepC]using h
 | .bool,c,v=>λh=>by simpa only[RepC]using h
 | .str,c,v=>λh=>by simpa only[RepC]using h
 | .sl e,c,v=>λhr=>by
  simp only[RepC]at hr ⊢;obtain⟨a,n,cap,hv,h1,h2,h3,h4⟩:=hr;refine⟨a,n,cap,hv,h1,h2,h3,?_⟩;rcases h4 with h4|⟨b,o,ha,hb,hc⟩
  · exact .inl h4
  · exact .inr ⟨b,o,ha,(h b hb).1,λi hi=>RepCs.mono h e _ b _ hb (hc i hi)⟩
theorem RepCs.mono {w w':World} {ok ok':Nat->Prop} (h:∀b,ok b->ok' b/\w'.heap[b]? =w.heap[b]?):∀(e:List Sh) (cs:List C) (b o:Nat),ok b->RepCs w ok e cs b o->RepCs w' ok' e cs b o
 |[],_,_,_=>λ_ _=>by simp only[RepCs]
 |s::r,cs,b,o=>λhb hr=>by
  simp only[RepCs]at hr ⊢;obtain⟨⟨u,hu,h1,h2⟩,h3⟩:=hr;exact⟨⟨u,by rw[World.cell?_of_block (w:=w) (h b hb).2]; exact hu,h1,RepC.mono h s _ u h2⟩,RepCs.mono h r _ b _ hb h3⟩
end
structure Aim (V V':Vw):Prop where
 D:∀k,V.D k->V'.D k
 c:∀k,V.D k->V.c k<=V'.c k
 p:∀k,V.D k->V'.c k=V.c k->V'.p k=V.p k
 pp:∀k a,V.D k->V.p k= .pointer a->V'.p k= .pointer a
 ok:∀b,V.ok b->V'.ok b/\V'.w.heap[b]? =V.w.heap[b]?
mutual
theorem VR.mono {V V':Vw} (h:Aim V V'):∀(s:SV) (v:Value),VR V s v->VR V' s v
 | .any,v=>λ_=>by simp only[VR]
 | .undef,v=>λh=>by simpa only[VR]using h
 | .int k n,v=>λh=>by simpa only[VR]using h
 | .lit k n,v=>λh=>by simpa only[VR]using h
 | .bool b,v=>λh=>by simpa only[VR]using h
 | .blit b,v=>λh=>by simpa only[VR]using h
 | .str s,v=>λh=>by simpa only[VR]using h
 | .agg cs,v=>λhr=>by
  simp only[VR]at hr ⊢;obtain⟨vs,hv,h1,hs⟩:=hr;exact⟨vs,hv,h1,VRs.mono h cs vs hs⟩
 | .tup cs,v=>λhr=>by
  simp only[VR]at hr ⊢;obtain⟨vs,hv,hs⟩:=hr;exact⟨vs,hv,VRs.mono h cs vs hs⟩
 | .sl e xs,v=>λhr=>by
  simp only[VR]at hr ⊢;exact RepC.mono h.ok _ _ _ hr
 | .slc e xs,v=>λhr=>by
  simp only[VR]at hr ⊢;exact⟨RepC.mono h.ok _ _ _ hr.1,hr.2⟩
 | .nilq xs,v=>λh=>by simpa only[VR]using h
 | .nils,v=>λh=>by simpa only[VR]using h
 | .slit n sz cs,v=>λhr=>by
  simp only[VR]at hr ⊢;obtain⟨a,cap,hv,h1,h2,h3,b,o,ha,hb,hc⟩:=hr;exact⟨a,cap,hv,h1,h2,h3,b,o,ha,(h.ok b hb).1,VRc.mono h cs b o hb hc⟩
 | .ref k off,v=>λhr=>by
  simp only[VR]at hr ⊢;obtain⟨hd,b,hp,hv⟩:=hr;exact⟨h.D k hd,b,h.pp k _ hd hp,hv⟩
 | .cref cs,v=>λhr=>by
  simp only[VR]at hr ⊢;obtain⟨b,o,hv,hb,hc⟩:=hr;exact⟨b,o,hv,(h.ok b hb).1,VRc.mono h cs b o hb hc⟩
 | .nilp,v=>λh=>by simpa only[VR]using h
 | .own k c,v=>λhr=>by
  simp only[VR]at hr ⊢;obtain⟨hd,hc,h1,h2⟩:=hr;have hcc:=h.c k hd;exact⟨h.D k hd,by omega,h1,λhe=>by rw[h.p k hd (by omega)]; exact h2 (by omega)⟩
 | .ownl k c xs,v=>λhr=>by
  simp only[VR]at hr ⊢;obtain⟨⟨hd,hc,h1,h2⟩,h3⟩:=hr;have hcc:=h.c k hd;exact⟨⟨h.D k hd,by omega,h1,λhe=>by rw[h.p k hd (by omega)]; exact h2 (by omega)⟩,h3⟩
 | .rref k c sz i off,v=>λhr=>by
  simp only[VR]at hr ⊢;obtain⟨hd,hc,h1,h2⟩:=hr;have hcc:=h.c k hd;exact⟨h.D k hd,by omega,h1,λhe=>by rw[h.p k hd (by omega)]; exact h2 (by omega)⟩
 | .ownv k c sz lo n,v=>λhr=>by
  simp only[VR]at hr ⊢;obtain⟨hd,hc,h1,h2⟩:=hr;have hcc:=h.c k hd;exact⟨h.D k hd,by omega,h1,λhe=>by rw[h.p k hd (by omega)]; exact h2 (by omega)⟩
 | .emp,v=>λh=>by simpa only[VR]using h
 | .fn f cs,v=>λhr=>by
  simp only[VR]at hr ⊢;obtain⟨vs,hv,hs⟩:=hr;exact⟨vs,hv,VRs.mono h cs vs hs⟩
theorem VRs.mono {V V':Vw} (h:Aim V V'):∀(cs:List SV) (vs:List Value),VRs V cs vs->VRs V' cs vs
 |[],vs=>λh=>by simpa only[VRs]using h
 |c::cs,vs=>λhr=>by
  simp only[VRs]at hr ⊢;obtain⟨v,r,hv,h1,h2⟩:=hr;exact⟨v,r,hv,VR.mono h c v h1,VRs.mono h cs r h2⟩
theorem VRc.mono {V V':Vw} (h:Aim V V'):∀(cs:List SV) (b o:Nat),V.ok b->VRc V cs b o->VRc V' cs b o
 |[],_,_=>λ_ _=>by simp only[VRc]
 |c::cs,b,o=>λhb hr=>by
  simp only[VRc]at hr ⊢;obtain⟨⟨u,hu,h1,h2⟩,h3⟩:=hr;exact⟨⟨u,by rw[World.cell?_of_block (w:=V.w) (h.ok b hb).2]; exact hu,h1,VR.mono h c u h2⟩,VRc.mono h cs b _ hb h3⟩
end
theorem Ahk {V V':Vw} (h:V'.bad=V.bad):∀b,(V.bad b->V'.bad b)/\(V'.bad b->V.bad b∨V.w.heap.size<=b/\b<V'.w.heap.size):=λb=>by rw[h]; exact⟨id,.inl⟩
structure Grow (V V':Vw) (W:List Nat):Prop where
 os:V'.w.os=V.w.os
 tape:V'.w.tape=V.w.tape
 output:V'.w.output=V.w.output
 bad:∀b,(V.bad b->V'.bad b)/\(V'.bad b->V.bad b∨V.w.heap.size<=b/\b<V'.w.heap.size)
 size:V.w.heap.size<=V'.w.heap.size
 D:∀k,V.D k->V'.D k
 c:∀k,V.D k->V.c k<=V'.c k
 p:∀k,V.D k->V'.c k=V.c k->V'.p k=V.p k
 pp:∀k a,V.D k->V.p k= .pointer a->V'.p k= .pointer a
 L:∀k,V.D k->V'.L k->V.L k
 mv:∀k,V.D k->V'.L k->∀b,blkOf (V'.p k)=some b->blkOf (V.p k)=some b∨V.w.heap.size<=b
 blk:∀b,b<V.w.heap.size->(∀k,k∈W->V.D k->V.L k->blkOf (V.p k)≠some b)->V'.w.heap[b]? =V.w.heap[b]?
 new:∀k,V'.D k->V'.L k->¬V.D k->∀b,blkOf (V'.p k)=some b->V.w.heap.size<=b
theorem Grow.ok {V V':Vw} {W:List Nat} (h:Grow V V' W) (b:Nat) (hb:V.ok b):V'.ok b/\V'.w.heap[b]? =V.w.heap[b]? :=by
 refine⟨⟨Amg hb.1 h.size,λhx=>((h.bad b).2 hx).elim hb.2.1 λh2=>by have:=hb.1; omega,λk hk hl he=> ?_⟩,h.blk b hb.1 λk _ hd hl=>hb.2.2 k hd hl⟩;by_cases hd:V.D k
 · rcases h.mv k hd hl b he with h1|h1
   · exact hb.2.2 k hd (h.L k hd hl) h1
   · have:=hb.1; omega
 · have:=h.new k hk hl hd b he;have:=hb.1;omega
theorem Grow.stays {V V':Vw} {W:List Nat} (h:Grow V V' W):Aim V V':=⟨h.D,h.c,h.p,h.pp,λb hb=>h.ok b hb⟩
theorem Grow.refl (V:Vw) (W:List Nat):Grow V V W:=⟨rfl,rfl,rfl,Ahk rfl,AlT _,λ_ h=>h,λ_ _=>AlT _,λ_ _ _=>rfl,λ_ _ _ h=>h,λ_ _ h=>h,λ_ _ _ _ h=> .inl h,λ_ _ _=>rfl,λ_ h _ h'=>(h' h).elim⟩
theorem Grow.trans {V V' V'':Vw} {W W':List Nat} (h:Grow V V' W) (h':Grow V' V'' W') (hW:∀k,k∈W'->V.D k->k∈W):Grow V V'' W where
 os:=h'.os.trans h.os
 tape:=h'.tape.trans h.tape
 output:=h'.output.trans h.output
 bad b:=⟨λhx=>(h'.bad b).1 ((h.bad b).1 hx),λhx=>((h'.bad b).2 hx).elim (λh1=>((h.bad b).2 h1).imp id λh2=>⟨h2.1,Amg h2.2 h'.size⟩) λh1=> .inr ⟨AnB h.size h1.1,h1.2⟩⟩
 size:=AnB h.size h'.size
 D k hk:=h'.D k (h.D k hk)
 c k hk:=AnB (h.c k hk) (h'.c k (h.D k hk))
 p k hk he:=by
  have h1:=h.c k hk;have h2:=h'.c k (h.D k hk);rw[h'.p k (h.D k hk) (by omega),h.p k hk (by omega)]
 pp k a hk he:=h'.pp k a (h.D k hk) (h.pp k a hk he)
 L k hk hl:=h.L k hk (h'.L k (h.D k hk) hl)
 mv k hk hl b hb:=by
  rcases h'.mv k (h.D k hk) hl b hb with h1|h1
  · exact h.mv k hk (h'.L k (h.D k hk) hl) b h1
  · exact .inr (AnB h.size h1)
 blk b hb hk:=by
  rw[h'.blk b (Amg hb h.size) λk hkW hkD hkL=> ?_]
  · exact h.blk b hb hk
  · intro he;by_cases hd:V.D k
    · rcases h.mv k hd hkL b he with h1|h1
      · exact hk k (hW k hkW hd) hd (h.L k hd hkL) h1
      · omega
    · have:=h.new k hkD hkL hd b he;omega
 new k hk hl hn b hb:=by
  by_cases hd:V'.D k
  · rcases h'.mv k hd hl b hb with h1|h1
    · exact h.new k hd (h'.L k hd hl) hn b h1
    · exact AnB h.size h1
  · exact AnB h.size (h'.new k hk hl hd b hb)
theorem Grow.mono {V V':Vw} {W W':List Nat} (h:Grow V V' W) (hW:∀k,k∈W->k∈W'):Grow V V' W':=
 {h with blk:=λb hb hk=>h.blk b hb λk hkW=>hk k (hW k hkW)}
def RepVs (w:World) (ok:Nat->Prop):List Sh->List C->List Value->Prop
 |[],_,us=>us=[]
 |s::r,cs,us=>∃u t,us=u::t/\u.oneCell'=true/\RepC w ok s (cs.headD default) u/\RepVs w ok r cs.tail t
def RepRow (w:World) (ok:Nat->Prop) (e:List Sh):List (List C)->List Value->Prop
 |[],us=>us=[]
 |x::r,us=>∃h t,us=h++t/\RepVs w ok e x h/\RepRow w ok e r t
theorem RepVs.mono {w w':World} {ok ok':Nat->Prop} (h:∀b,ok b->ok' b/\w'.heap[b]? =w.heap[b]?):∀(e:List Sh) (cs:List C) (us:List Value),RepVs w ok e cs us->RepVs w' ok' e cs us
 |[],_,_=>λh=>h
 |s::r,cs,us=>fun⟨u,t,he,h1,h2,h3⟩=>⟨u,t,he,h1,RepC.mono h s _ u h2,RepVs.mono h r _ t h3⟩
theorem RepRow.mono {w w':World} {ok ok':Nat->Prop} (h:∀b,ok b->ok' b/\w'.heap[b]? =w.heap[b]?) (e:List Sh):∀(xs:List (List C)) (us:List Value),RepRow w ok e xs us->RepRow w' ok' e xs us
 |[],_=>λh=>h
 |_::r,_=>fun⟨a,t,he,h1,h2⟩=>⟨a,t,he,RepVs.mono h e _ a h1,RepRow.mono h e r t h2⟩
def OwnRow (w:World) (t:TypeId) (sz:Nat) (v:Value) (n:Nat) (us:List Value):Prop:=
  us.length=n*sz/\
  ((n=0/\∃a,v= .slice a 0 0)∨
   ∃g cap cur,v= .slice (some ⟨g,0,none⟩) n cap/\0<cap/\w.heap[g]? =some (.cells cur t (0,0))/\n<=cap/\cap<=maxLen/\cur.size=cap*sz/\cur.toList.take (n*sz)=us)
def Ah3 (w:World) (ok:Nat->Prop) (kt:IntKind) (g:Bool) (e:List Sh) (x:Int×List C) (m:MapEntry):Prop:=
 m.key= .int kt x.1/\∃us,RepVs w ok e x.2 us/\m.val=bif g then .agg us.toArray else us.headD Go.undef
def EntsRep (w:World) (ok:Nat->Prop) (kt:IntKind) (g:Bool) (e:List Sh):List (Int×List C)->List MapEntry->Prop
 |[],ms=>ms=[]
 |x::r,ms=>∃m t,ms=m::t/\Ah3 w ok kt g e x m/\EntsRep w ok kt g e r t
theorem EntsRep.mono {w w':World} {ok ok':Nat->Prop} (h:∀b,ok b->ok' b/\w'.heap[b]? =w.heap[b]?) {kt:IntKind} {g:Bool} {e:List Sh}:∀(xs:List (Int×List C)) (ms:List MapEntry),EntsRep w ok kt g e xs ms->EntsRep w' ok' kt g e xs ms
 |[],_=>λh=>h
 |_::r,_=>fun⟨m,t,he,⟨hk,us,hr,hv⟩,h2⟩=>⟨m,t,he,⟨hk,us,RepVs.mono h e _ us hr,hv⟩,EntsRep.mono h r t h2⟩
def HBRep (V:Vw) (k:Nat):HB->Prop
 | .box cells t=>V.L k/\∃b vs,V.p k= .pointer (some ⟨b,0,none⟩)/\V.w.heap[b]? =some (.cells vs.toArray t (0,0))/\(∀v∈vs,v.oneCell'=true)/\VRs V cells vs
 | .row e t c xs=>V.L k/\V.c k=c/\∃n us,OwnRow V.w t e.length (V.p k) n us/\n=xs.length/\RepRow V.w V.ok e xs us
 | .froz e c xs=>V.c k=c/\RepC V.w V.ok (.sl e) (.l xs) (V.p k)
 | .mp kt g e c xs=>V.L k/\V.c k=c/\∃b es clock,V.p k= .map (some b)/\V.w.heap[b]? =some (.map es clock)/\EntsRep V.w V.ok kt g e xs es.toList
 | .hrow t c n i x f=>V.L k/\V.c k=c/\∃us,OwnRow V.w t 1 (V.p k) n us/\(∀u∈us,u.oneCell'=true)/\∀j,j<n->((j:Int)=i->∀u,us[j]? =some u->VR V x u)/\((j:Int)≠i->us[j]? =some (f j))
 | .gone=>False
structure Heap (V:Vw) (H:Nat->Option HB):Prop where
 rep:∀k,V.D k->∃hb,H k=some hb/\HBRep V k hb
 lt:∀k b,V.D k->V.L k->blkOf (V.p k)=some b->b<V.w.heap.size
 bd:∀b,V.bad b->b<V.w.heap.size
 nb:∀k b,V.D k->V.L k->blkOf (V.p k)=some b->¬V.bad b
 inj:∀k k' b,V.D k->V.L k->V.D k'->V.L k'->blkOf (V.p k)=some b->blkOf (V.p k')=some b->k=k'
end Go.Sx

