import Derived.Test.YtejdbdegdanecaaGreatSxUse
import Derived.Shelf.Spec.BitsCarry
set_option linter.unusedVariables false
set_option linter.unusedSimpArgs false
namespace Go
def LJ (x y b:Int):Int:=(x-y-b) % 18446744073709551616
def Jw (x y b:Int):Int:=if x<y+b then 1 else 0
def Ld (x y b:Int):Int:=(x+y+b) % 18446744073709551616
def Jt (x y b:Int):Int:=(x+y+b)/18446744073709551616
end Go
namespace Go.Sx
open Go.RowKit
theorem Aei {P:Program} {f:FuncId} {fn:Func} {e:Array Value→Sem Value} {ct:Ct} (hf:P.funcs[f]? =some fn) (hname:(fn.name== "runtime.NumGoroutine")=false)
 (hb:fn.body.isNone=true) (hn:Extern.findNext fn=none) (he:Extern.find fn=some e) (hbx:ct.bx=none) (how:ct.ow=none) (hfr:ct.fr=none)
 (hwf:∀args,Wfs (ofRess ct.ps args)->ct.pre args->Wfs (ofRess ct.rs (ct.out args)))
 (h:∀(V:Vw) (args:List (List C)) (vals:List Value),Wfs (ofRess ct.ps args)->ct.pre args->VRs V (ofRess ct.ps args) vals->∃v,(e vals.toArray).run P V.w= .ok v V.w/\VR V (ct.sv args) v):SoundCt P f ct:=by
 refine⟨λargs ha hp=> ?_,λ_ _ _ V args vals _ _ ha hp hv=> ?_,λt e' hb'=>by(rw[hbx]at hb'; cases hb'),λt e r _ h=>by rw[how]at h; (cases h),λt e _ _ h=>by rw[hfr]at h; (cases h)⟩
 · simp only[Ct.aps,Ct.ars,hbx,how,hfr]at ha ⊢;exact hwf args ha hp
 · obtain⟨v,h1,h2⟩:=h V args vals ha hp hv;refine .inr ⟨v,V.w,?_,⟨rfl,rfl,rfl,AlT _,λ_ _=>rfl⟩,h2⟩;rw[run_callFunc_extern hf hname hb hn he,h1];rfl
def u3:List (Bool×List Sh):=[(false,[.int .u64]),(false,[.int .u64]),(false,[.int .u64])]
def Ak7:Ct:= {ps:=u3,rs:=[(false,[.int .u64]),(false,[.int .u64])],pre:=λa=>(cel 0 (arg 2 a)).int<=1/\True,out:=λa=>[[.i (LJ (cel 0 (arg 0 a)).int (cel 0 (arg 1 a)).int (cel 0 (arg 2 a)).int)],[.i (Jw (cel 0 (arg 0 a)).int (cel 0 (arg 1 a)).int (cel 0 (arg 2 a)).int)]]}
def Ajr:Ct:= {ps:=u3,rs:=[(false,[.int .u64]),(false,[.int .u64])],pre:=λa=>(cel 0 (arg 2 a)).int<=1/\True,out:=λa=>[[.i (Ld (cel 0 (arg 0 a)).int (cel 0 (arg 1 a)).int (cel 0 (arg 2 a)).int)],[.i (Jt (cel 0 (arg 0 a)).int (cel 0 (arg 1 a)).int (cel 0 (arg 2 a)).int)]]}
theorem u3_vals {V:Vw} {a:List (List C)} {vals:List Value} (hw:Wfs (ofRess u3 a)) (hv:VRs V (ofRess u3 a) vals):
 ∃x y b:Nat,(cel 0 (arg 0 a)).int=x/\(cel 0 (arg 1 a)).int=y/\(cel 0 (arg 2 a)).int=b/\x<18446744073709551616/\y<18446744073709551616/\vals=[.int .u64 x,.int .u64 y,.int .u64 b]:=by
 have e:ofRess u3 a=[.int .u64 (cel 0 (arg 0 a)).int,.int .u64 (cel 0 (arg 1 a)).int,.int .u64 (cel 0 (arg 2 a)).int]:=rfl;rw[e]at hw hv;simp only[Wfs,Wf,InR,and_true]at hw;simp only[VRs,VR]at hv;obtain⟨_,_,rfl,rfl,_,_,rfl,rfl,_,_,rfl,rfl,rfl⟩:=hv;obtain⟨x,hx⟩:=Amf hw.1.1;obtain⟨y,hy⟩:=Amf hw.2.1.1;obtain⟨b,hb⟩:=Amf hw.2.2.1;refine⟨x,y,b,hx,hy,hb,by omega,by omega,?_⟩;rw[hx,hy,hb]
theorem AgU {P:Program} {f:FuncId} {fn:Func} (hf:P.funcs[f]? =some fn) (hname:(fn.name== "runtime.NumGoroutine")=false)
 (hb:fn.body.isNone=true) (hn:Extern.findNext fn=none) (he:Extern.find fn=some Go.Proofs.sub64Entry):SoundCt P f Ak7:=by
 refine Aei hf hname hb hn he rfl rfl rfl (λa hw hp=> ?_) λV a vals hw hp hv=> ?_
 · show Wfs [.int .u64 (LJ _ _ _),.int .u64 (Jw _ _ _)];simp only[Wfs,Wf,InR,and_true,LJ,Jw];split<;>omega
 · obtain⟨x,y,b,hx,hy,hb',h1,h2,rfl⟩:=u3_vals hw hv;have hb1:b<=1:=by have:=hp.1; rw[hb']at this; omega
   refine⟨_,Go.Proofs.run_sub64 x y b hb1 V.w,?_⟩;show VR V (.tup [.int .u64 (LJ _ _ _),.int .u64 (Jw _ _ _)]) _;rw[hx,hy,hb'];simp only[VR,VRs];refine⟨_,rfl,_,_,rfl,?_,_,_,rfl,?_,rfl⟩
   · unfold LJ; congr 1; omega
   · unfold Jw; congr 1; split<;>split<;>omega
theorem Ahm {P:Program} {f:FuncId} {fn:Func} (hf:P.funcs[f]? =some fn) (hname:(fn.name== "runtime.NumGoroutine")=false)
 (hb:fn.body.isNone=true) (hn:Extern.findNext fn=none) (he:Extern.find fn=some add64Entry):SoundCt P f Ajr:=by
 refine Aei hf hname hb hn he rfl rfl rfl (λa hw hp=> ?_) λV a vals hw hp hv=> ?_
 · have e:ofRess u3 a=[.int .u64 (cel 0 (arg 0 a)).int,.int .u64 (cel 0 (arg 1 a)).int,.int .u64 (cel 0 (arg 2 a)).int]:=rfl;rw[show ofRess Ajr.ps a=ofRess u3 a from rfl,e]at hw;show Wfs [.int .u64 (Ld _ _ _),.int .u64 (Jt _ _ _)];simp only[Wfs,Wf,InR,and_true,Ld,Jt]at hw ⊢;omega
 · obtain⟨x,y,b,hx,hy,hb',h1,h2,rfl⟩:=u3_vals hw hv;have hb1:b<=1:=by have:=hp.1; rw[hb']at this; omega
   refine⟨_,run_add64 x y b (by omega) (by omega) (by omega) (by omega) V.w,?_⟩;show VR V (.tup [.int .u64 (Ld _ _ _),.int .u64 (Jt _ _ _)]) _;rw[hx,hy,hb'];simp only[VR,VRs];refine⟨_,rfl,_,_,rfl,?_,_,_,rfl,?_,rfl⟩
   · unfold Ld; congr 1
   · unfold Jt; congr 1
end Go.Sx

