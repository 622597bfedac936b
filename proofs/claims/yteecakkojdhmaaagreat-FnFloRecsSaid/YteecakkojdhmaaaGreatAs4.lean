/- A part of the proof that FnFloRecs holds: an abstract machine, typed evaluation, and that both are sound. -/
import Derived.Test.YteecakkojdhmaaaGreatAs3
import Derived.Below
import Derived.ChangeArms
import Derived.DataReads
import GoSem.ClaimJoined
set_option linter.unusedVariables false
set_option linter.unusedSimpArgs false
namespace Go.Proofs.YteecakkojdhmaaaGreatA.AS
def R1.shr:R1→R1
 | .one p=>.one p.sh
 | .agg l=>.agg (l.map PV.sh)
section
variable {P:Program} {w w':World} {M M' N:Nat→Prop} {τ:Nat→Value}
theorem R1R.shr {x:R1} {u:Value} {f:List Nat} (h:R1R w M (X0 τ M) x u f) (hn:∀ p∈x.cs,NoRef p) (hf:∀ g∈f,¬ M' g) (hM:∀ g,g<w.heap.size→¬ M g→¬ M' g):R1R w M' (X0 τ M') x.shr u []:=by
 cases x with
 | one p=>exact RC.toRo h (hn p (by simp [R1.cs])) hf hM rfl
 | agg l =>
  obtain ⟨xs,rfl,hc⟩:=h;exact ⟨xs,rfl,hc.toRo hn hf hM rfl⟩
theorem ResR.shr {res:List R1} {us:List Value} {rf:List (List Nat)} (h:ResR w M τ res us rf) (hf:∀ g∈rf.flatten,¬ M' g) (hM:∀ g,g<w.heap.size→¬ M g→¬ M' g):ResR w M' τ (res.map R1.shr) us (rf.map fun _=>[]):=by
 induction h with
 | nil=>exact .nil
 | @cons x u f xs us fs h hn t ih =>
  refine .cons (h.shr hn (fun g hg=>hf g (by simp [hg])) hM) (fun p hp => ?_) (ih fun g hg=>hf g (by simp only [List.flatten_cons,lma];exact .inr hg));cases x with
  | one q =>
   have:p=q.sh:=by simpa [R1.shr,R1.cs] using hp
   subst this;exact (hn q (by simp [R1.cs])).sh
  | agg l =>
   obtain ⟨q,hq,rfl⟩:=List.mem_map.1 (show p∈l.map PV.sh from hp);exact (hn q hq).sh
theorem WinsR.less {args:List Arg} {ws:List (Nat×Nat×Nat)} {fw:List (List Nat)} (h:WinsR w M τ args ws fw) (hM:∀ g,g<w.heap.size→¬ M g→¬ M' g):WinsR w M' τ args ws fw:=by
 induction h with
 | nil=>exact .nil
 | v t ih=>exact .v ih
 | o t ih=>exact .o ih
 | w hc h hn hl hx t ih=>exact .w hc (h.map_rc fun p u f hp hg hr=>hr.move (hn p hp) (fun _ _=>rfl) (fun _ _ _=>rfl) hM rfl) hn hl hx ih
end
def noSl:Ty→Bool
 | .sl _=>false
 | .pr a b=>noSl a&&noSl b
 | _=>true
def noSls:List Ty→Bool
 | []=>true
 | t::r=>noSl t&&noSls r
def shS:List SC→List SC
 | []=>[]
 | x::r=>x.sh::shS r
theorem shS_pv:∀ (l:List SC),(shS l).map SC.pv=(l.map SC.pv).map PV.sh
 | []=>rfl
 | x::r=>by simp only [shS,List.map_cons,shS_pv r,SC.sh_pv]
def ofS (t:Ty) (l:List SC):Option (Den t):=match t.flat with
 | true=>ofV t (shS l)
 | false=>none
theorem ofS_ok {t:Ty} {l:List SC} {v:Den t} (h:ofS t l=some v):ImpL ((l.map SC.pv).map PV.sh) (enc t v):=by
 unfold ofS at h;split at h
 ·rename_i hf;have:=ofV_imp h
  rwa [shS_pv,enc_sh t hf] at this
 ·cases h
def ImpRs:List R1→List R1→Prop
 | [],[]=>True
 | x::xs,y::ys=>ImpR x y∧ImpRs xs ys
 | _,_=>False
def ofM (m:Bool) (t:Ty) (l:List SC):Option (Den t):=match m with
 | true=>ofS t l
 | false=>ofC true t l
section
variable {P:Program} {w w':World} {M M' N:Nat→Prop} {τ:Nat→Value}
theorem ResR.imp:∀ {res res2:List R1} {us:List Value} {rf:List (List Nat)},ResR w M τ res us (rf.map fun _=>[])→ImpRs res res2→(∀ y∈res2,∀ p∈y.cs,NoRef p)→ResR w M τ res2 us (rf.map fun _=>[])
 | [],[],us,rf,h,hi,hn=>h
 | x::xs,y::ys,us,rf,h,hi,hn=>by
  generalize hz:(rf.map fun _=>([]:List Nat))=z at h;cases h with
  | @cons _ u f _ us fs h hn0 t =>
   cases rf with
   | nil=>cases hz
   | cons a rf =>
    simp only [List.map_cons,List.cons.injEq] at hz;obtain ⟨rfl,rfl⟩:=hz;exact .cons (hi.1 _ _ _ _ h) (hn y (by simp)) (ResR.imp t hi.2 fun y hy=>hn y (by simp [hy]))
 | [],_::_,_,_,_,hi,_=>hi.elim
 | _::_,[],_,_,_,hi,_=>hi.elim
theorem ConPost.shr {args:List Arg} {res res2:List R1} {fp:List Nat} {ws:List (Nat×Nat×Nat)} {u:Value} (h:ConPost w w' τ N args res fp ws u) (hN:∀ g,N g→g<w.heap.size) (hfp:∀ g∈fp,¬ N g) (him:ImpRs (res.map R1.shr) res2) (hn2:∀ y∈res2,∀ p∈y.cs,NoRef p):ConPost w w' τ N args res2 fp ws u:=by
 obtain ⟨hk,us,rf,fw,e,hr,hw,hnd,hin⟩:=h;have hnil:(rf.map fun _=>([]:List Nat)).flatten=[]:=by
  clear hr hnd hin e;induction rf with
  | nil=>rfl
  | cons a l ih=>simp
 have hsub:∀ g,g<w'.heap.size→¬ (N g∨g∈rf.flatten++fw.flatten)→¬ (N g∨g∈(rf.map fun _=>([]:List Nat)).flatten++fw.flatten):=fun g _ hn hm=>hn (hm.imp id fun k=>by rw [hnil] at k;exact List.mem_append_right _ (by simpa using k))
 refine ⟨hk,us,rf.map fun _=>[],fw,e,(hr.shr (fun g hg hm => ?_) hsub).imp him hn2,hw.less hsub,?_,fun g hg=>hin g ?_⟩
 ·rcases hm with hm|hm
  ·rcases (hin g (List.mem_append_left _ hg)).1 with k|k
   ·exact hfp g k hm
   ·have:=hN g hm;omega
  ·rw [hnil] at hm;have hm:g∈fw.flatten:=by simpa using hm
   rw [List.append_assoc] at hnd;exact (List.nodup_append.1 hnd).2.2 g hg g (List.mem_append_left _ hm) rfl
 ·rw [hnil];rw [List.append_assoc] at hnd;simpa using (List.nodup_append.1 hnd).2.1
 ·rw [hnil] at hg;exact List.mem_append_right _ (by simpa using hg)
theorem con_ofS {f : FuncId} {fn : Func} {c : Code} {rv : List ResultVar} {rs : List Rk} {args : List Arg} {res : List R1} {k : AC} {n : Nat} (hf : P.funcs[f]? = some fn) (hb : fn.body = some c) (hr : fn.results = rv.toArray) (hrv : cRess P rv = some rs) (hnt : fn.ntmps = n) (hc : cCode P n c = k) (hn : args.length ≤ n) (hname : (fn.name == "runtime.NumGoroutine") = false)
  (h:∀ G,TA P G [] n k (entry n args) fun e σ=>(e=.normal∨e=.ret)∧∃ res',ImpRs (res'.map R1.shr) res∧doneK rs args res' σ) (hn2:∀ y∈res,∀ p∈y.cs,NoRef p):Con P f args res:=by
 subst hnt;refine ⟨⟨fn,hf,hname,by rw [hb];rfl⟩,?_⟩;intro w τ N us fo fw ws ha hnd hws hfp hlt;have hsim:=entry_sim ha hnd (fun g hg=>(lma.1 hg).elim (fun k=>.inr k) fun k=>.inl (hws g k)) (N1:=N) (fun g hg=>.inl hg) hfp hlt fn.ntmps (by have:=ha.len.1;omega);refine calls_of_wp hf hb (wp_mono (h _ c hc _ _ hsim) fun e a w' hq => ?_);obtain ⟨σ',⟨he,res',hres,hd⟩,hs⟩:=hq;obtain ⟨h1,v,h2,h3⟩:=leave ha hnd hs hr hrv hd;have h3:=h3.shr hlt hfp hres hn2;rcases he with rfl|rfl
 ·exact ⟨h1,v,h2,v,rfl,h3⟩
 ·exact ⟨h1,v,h2,v,rfl,h3⟩
end
def shL:List SC→List TC
 | []=>[]
 | x::r=>.c x.sh::shL r
def mkTR (t:Ty) (l:List TC):TR:=match t.agg with
 | true=>.agg l
 | false=>.one (l.headD .un)
def eRegs {P:Program}:Nat→Nat→Nat→List (SM P)→List (Nat×TV)
 | _,_,_,[]=>[]
 | i,w,b,⟨.v t,x⟩::r=>(i,.r (mkTR t (shL (cells t x))))::eRegs (i+1) w b r
 | i,w,b,⟨.o t mk,x⟩::r=>(i,.r (mkTR t (tthaw 0 b (maskT mk ((cells t x).map .c))).1))::eRegs (i+1) w (b+(tthaw 0 b (maskT mk ((cells t x).map .c))).2.length) r
 | i,w,b,⟨.w t,x⟩::r=>(i,.r (.one (.vp w 0)))::eRegs (i+1) (w+1) b r
 | i,w,b,⟨.rp t,x⟩::r=>(i,.r (.one (.rp (cells t x) 0)))::eRegs (i+1) w b r
 | i,w,b,⟨.f a r',q⟩::r=>(i,.r (.one (.fv q.f q.m a r' q.p)))::eRegs (i+1) w b r
 | i,w,b,⟨.k f,_⟩::r=>(i,.r (.one (.fn f [])))::eRegs (i+1) w b r
 | i,w,b,⟨.rq t,x⟩::r=>(i,.r (.one (.rq (cells t x))))::eRegs (i+1) w b r
def eWins {P:Program}:List (SM P)→List TB
 | []=>[]
 | ⟨.w t,x⟩::r=>.var true ((cells t x).map .c)::eWins r
 | _::r=>eWins r
def eOwn {P:Program}:Nat→List (SM P)→List (Nat×TB)
 | _,[]=>[]
 | b,⟨.o t mk,x⟩::r=>(tthaw 0 b (maskT mk ((cells t x).map .c))).2++eOwn (b+(tthaw 0 b (maskT mk ((cells t x).map .c))).2.length) r
 | b,_::r=>eOwn b r
def entT {P:Program} (l:List (SM P)):TSt :=
 ⟨eRegs 0 0 (eWins l).length l,setTs (eWins l) (eOwn (eWins l).length l),1⟩
def resT (m:Bool) (τ:TSt):List Rk→List Ty→Option (List SD×List Nat)
 | [],[]=>some ([],[])
 | .t n::r,t::ts=>match cellsR t (lookT τ.r n) with
  | some cs=>match ownL τ cs,resT m τ r ts with
   | some (xs,i),some (l,is)=>match ofM m t xs with
    | some v=>some (⟨t,v⟩::l,i++is)
    | none=>none
   | _,_=>none
  | none=>none
 | .c n k::r,t::ts=>match lookT τ.r n with
  | .r (.one (.vp id 0))=>match tbAt τ.h id with
   | .var _ cs=>match Nat.beq cs.length (k.getD 1),t.agg==k.isSome with
    | true,true=>match ownL τ cs,resT m τ r ts with
     | some (xs,i),some (l,is)=>match ofM m t xs with
      | some v=>some (⟨t,v⟩::l,(id::i)++is)
      | none=>none
     | _,_=>none
    | _,_=>none
   | _=>none
  | _=>none
 | _,_=>none
def winsT (h:List TB):Nat→List Ty→Option (List SD)
 | _,[]=>some []
 | i,t::ts=>match tbAt h i with
  | .var _ cs=>match toSC cs with
   | some xs=>match ofC true t xs,winsT h (i+1) ts with
    | some v,some l=>some (⟨t,v⟩::l)
    | _,_=>none
   | none=>none
  | _=>none
def rkRegs:List Rk→List Nat
 | []=>[]
 | .t n::r=>n::rkRegs r
 | .c n _::r=>n::rkRegs r
def geAll (n:Nat):List Nat→Bool
 | []=>true
 | i::r=>Nat.ble n i&&geAll n r
def tres (n:Nat) (rs:List Rk) (s:Sig) (τ:TSt):Option (DenOs s.outs) :=
 let τ1:=norm n [] (rkRegs rs) τ
 match resT (noSls s.rs) τ1 rs s.rs,winsT τ1.h 0 (winT s.ms) with
 | some (l,ids),some ws=>match nodupB ids&&geAll (winT s.ms).length ids with
  | true=>mkOs s.outs (l++ws)
  | false=>none
 | _,_=>none
def boxT (n:Nat) (t:Nat) (s:Sig) (τ:TSt):Option (DenOs s.outs) :=
 let τ1:=norm n [] [t] τ
 match lookT τ1.r t with
 | .r (.one (.vp id 0))=>match tbAt τ1.h id with
  | .var false cs=>match (s.outs.headD .bool).flat,toSC cs with
   | true,some xs=>match ofC true (s.outs.headD .bool) xs with
    | some v=>mkOs s.outs [⟨s.outs.headD .bool,v⟩]
    | none=>none
   | _,_=>none
  | _=>none
 | _=>none
def endK {R:Type} (K:TSt→Option R) (e:Exit) (τ:TSt):Option R:=match e with
 | .normal=>K τ
 | .ret=>K τ
 | _=>none
section
variable {P:Program} {G:Fr} {X:Ctx} {F:Nat→List Nat} {σ:St} {a:Act} {acts:List Act} {w w':World} {τ:Nat→Value} {N:Nat→Prop}
def doneB (t:Nat) (c:List PV) (σ:St):Prop :=
 ∃ id k kids,σ.reg t=.r (.one (.ptr id 1 0 0))∧σ.slot id=.live ⟨1,k,kids,[c]⟩∧∀ p∈c,NoRef p∧p.free=true
theorem conB_of {f : FuncId} {fn : Func} {cd : Code} {t : Nat} {args : List Arg} {c : List PV} {k : AC} {n : Nat} (hf : P.funcs[f]? = some fn) (hb : fn.body = some cd) (hr : fn.results = [ResultVar.tmp t].toArray) (hnt : fn.ntmps = n) (hc : cCode P n cd = k) (hn : args.length ≤ n) (hname : (fn.name == "runtime.NumGoroutine") = false)
  (h:∀ G,TA P G [] n k (entry n args) fun e σ=>(e=.normal∨e=.ret)∧∃ σ',Wk G σ σ'∧doneB t c σ'):ConB P f args c:=by
 refine ⟨⟨fn,hf,hname,by rw [hb];rfl⟩,?_⟩;intro w τ N us ha hlt;have hlen:=ha.len;have hsim:=entry_sim ha (by simp) (by simp) (N1:=N) (fun g hg=>hg) (by simp) hlt fn.ntmps (by rw [hnt];have:=hlen.1;omega);have hT:=h (frOf w τ N (([]:List (List Nat)).flatten++([]:List (List Nat)).flatten) []) cd hc;rw [hnt] at hsim;refine calls_of_wp hf hb (wp_mono (hT _ _ (by rw [hnt];exact hsim)) fun e a w' hq => ?_);obtain ⟨σ1,⟨he,σ',hw,id,kk,kids,h1,h2,h3⟩,hs1⟩:=hq;obtain ⟨X,F,hs⟩:=hw _ _ hs1;have hdef:a.defers=[]:=by cases hs.envs with|cons e _=>exact e.defers
 have hid:X.H id=.live ⟨1,kk,kids,[c]⟩:=by rw [hs.hH];exact h2
 have hrt:=hs.reg t;rw [h1] at hrt;have hrt:RC w' (Mut X F) X (.ptr id 1 0 0) (a.tmps.getD t undef) []:=hrt;obtain ⟨ad,_,_,hl⟩:=hrt.ptr_inv;obtain ⟨_,h5⟩:=hl _ hid;obtain ⟨_,z,hz,hv⟩:=h5 rfl;have hv:a.tmps.getD t undef=.pointer (some (baseOf z)):=by
  rw [hv];simp only [Nat.zero_mul,Nat.add_zero];rw [show (baseOf z).add 0=baseOf z by rw [add_baseOf];rfl]
 obtain ⟨xs,hcs,hat⟩:=(hs.blk id _ hid).cells z hz;have hzo:z.1∈Own X F id:=by simp [Own,hz]
 have hzM:Mut1 X F z.1:=⟨id,_,hid,hzo⟩
 have hz1:w.heap.size≤z.1:=by
  rcases hs.src z.1 hzM with k|⟨x,hx,_⟩|k
  ·have k:z.1∈([]:List (List Nat)).flatten++([]:List (List Nat)).flatten:=k;simp at k
  ·have hx:x∈([]:List (Nat×Nat×Nat)):=hx;cases hx
  ·exact k
 have e0:(([c]:List (List PV))).flatten=c:=by simp
 rw [e0] at hcs;have hres:(results fn a.tmps).run P w'=.ok (.pointer (some (baseOf z))) w':=by
  have:=results_of (P:=P) (fn:=fn) (rs:=[ResultVar.tmp t]) (us:=[.pointer (some (baseOf z))]) (tmps:=a.tmps) (w:=w') hr (.cons (by
   show Sem.run P (pure (a.tmps.getD t undef)) w'=_;rw [hv];rfl) .nil)
  exact this
 have hpost:∃ (z':Nat×Nat) (vs:List Value),Ending.returned (.pointer (some (baseOf z)))=.returned (.pointer (some (baseOf z')))∧Kept w w' (·∈([]:List Nat)) []∧CellsAt w' z' vs∧RCs w' (fun g=>N g∨g=z'.1) (X0 τ N) c vs []∧w.heap.size≤z'.1∧z'.1<w'.heap.size:=by
  refine ⟨z,xs,rfl,hs.kept,hat,?_,hz1,hs.lt _ hzM⟩;obtain ⟨hll,fps,hfl,hFF,hrc⟩:=hcs;refine RCs.of_nofp hll fun j p u hp hu => ?_
  have hpm:=h3 p (List.mem_of_getElem? hp);have hj:j<fps.length:=by have:=(List.getElem?_eq_some_iff.1 hu).1;omega
  have h6:=hrc j p u _ hp hu (List.getElem?_eq_getElem hj);rw [h6.fp_nil (fun k l e=>by subst e;have:=hpm.2;simp [PV.free] at this)] at h6;refine h6.move hpm.1 (by simp) (fun _ _ _=>rfl) (fun g _ hn hm=>hn ?_) hs.hτ.symm;rcases hm with hm|rfl
  ·exact .inl (hs.hN g hm)
  ·exact .inr hzM
 rcases he with rfl|rfl
 ·exact ⟨hdef,_,hres,hpost⟩
 ·exact ⟨hdef,_,hres,hpost⟩
end
section
variable {P:Program} {G:Fr} {n:Nat} {tab:List (AEnt P)} {τ:TSt}
theorem shL_pv:∀ (l:List SC),(shL l).map TC.pv=(l.map SC.pv).map PV.sh
 | []=>rfl
 | x::r=>by simp only [shL,List.map_cons,TC.pv,SC.sh_pv,shL_pv r]
theorem shL_c:∀ {l:List SC} {c:TC},c∈shL l→∃ x,c=.c x
 | x::r,c,h=>by
  rcases List.mem_cons.1 h with rfl|h
  ·exact ⟨_,rfl⟩
  ·exact shL_c h
theorem sz_one {t:Ty} (h:t.agg=false):t.sz=1:=by cases t<;>first|rfl|cases h
theorem mkTR_r1 (t:Ty) (l:List TC):(mkTR t l).r1=mkR1 t (l.map TC.pv):=by
 cases ha:t.agg with
 | true=>simp only [mkTR,ha,TR.r1,mkR1_agg ha]
 | false=>simp only [mkTR,ha,TR.r1,mkR1_one ha,headD_map]
theorem mkTR_cs {t:Ty} {l:List TC} {c:TC} (h:c∈(mkTR t l).cs):c∈l∨c=.un:=by
 unfold mkTR at h;split at h
 ·exact .inl h
 ·have h:c=l.headD .un:=by simpa [TR.cs] using h
  cases l with
  | nil=>exact .inr h
  | cons x r=>exact .inl (by rw [h];simp)
theorem thawR_mk (b:Nat) (t:Ty) (mk:List Bool) (x:Den t):thawR b (mkR1 t (maskP mk (enc t x)))=(mkTR t (tthaw 0 b (maskT mk ((cells t x).map .c))).1).r1:=by
 have e1:=tthaw_ok 0 b (maskT mk ((cells t x).map .c));rw [maskT_pv,cells_c] at e1;rw [mkTR_r1];cases ha:t.agg with
 | true=>simp only [mkR1_agg ha,thawR,e1]
 | false =>
  obtain ⟨p,hp⟩:∃ p,maskP mk (enc t x)=[p]:=List.length_eq_one_iff.1 (by rw [maskP_len,enc_len,sz_one ha]);simp only [mkR1_one ha,thawR];rw [hp] at e1 ⊢;simp only [List.headD_cons,e1]
theorem eRegs_ok:∀ (l:List (SM P)) (wl:List SD) (i w b:Nat),regsOf i w b (argsL l wl)=(eRegs i w b l).map fun e=>(e.1,e.2.rv)
 | [],wl,i,w,b=>rfl
 | ⟨.v t,x⟩::r,wl,i,w,b=>by
  simp only [argsL,regsOf,eRegs,List.map_cons,eRegs_ok r,TV.rv,mkTR_r1,shL_pv,cells_pv]
 | ⟨.o t mk,x⟩::r,wl,i,w,b=>by
  have e1:=tthaw_ok 0 b (maskT mk ((cells t x).map .c));rw [maskT_pv,cells_c] at e1;simp only [argsL,regsOf,eRegs,List.map_cons,thawR_mk,mkR1_cs t (maskP mk (enc t x)) (by rw [maskP_len,enc_len])];rw [eRegs_ok r,e1,List.length_map];rfl
 | ⟨.w t,x⟩::r,wl,i,w,b=>by
  simp only [argsL,regsOf,eRegs,List.map_cons,eRegs_ok r];rfl
 | ⟨.rp t,x⟩::r,wl,i,w,b=>by
  simp only [argsL,regsOf,eRegs,List.map_cons,eRegs_ok r,TV.rv,TR.r1,TC.pv,cells_pv]
 | ⟨.f a r',q⟩::r,wl,i,w,b=>by
  simp only [argsL,regsOf,eRegs,List.map_cons,eRegs_ok r];rfl
 | ⟨.k f,_⟩::r,wl,i,w,b=>by
  simp only [argsL,regsOf,eRegs,List.map_cons,eRegs_ok r];rfl
 | ⟨.rq t,x⟩::r,wl,i,w,b=>by
  simp only [argsL,regsOf,eRegs,List.map_cons,eRegs_ok r,TV.rv,TR.r1,TC.pv,cells_pv]
theorem eWins_ok:∀ (l:List (SM P)) (wl:List SD),winBlks (argsL l wl)=(eWins l).map TB.slot
 | [],wl=>rfl
 | ⟨.v t,x⟩::r,wl=>eWins_ok r wl
 | ⟨.o t mk,x⟩::r,wl=>eWins_ok r wl
 | ⟨.w t,x⟩::r,wl=>by
  simp only [argsL,winBlks,eWins,List.map_cons,eWins_ok r,TB.slot,cells_c,List.length_map,cells_len,enc_len,if_true]
 | ⟨.rp t,x⟩::r,wl=>eWins_ok r wl
 | ⟨.f a r',q⟩::r,wl=>eWins_ok r wl
 | ⟨.k f,_⟩::r,wl=>eWins_ok r wl
 | ⟨.rq t,_⟩::r,wl=>eWins_ok r wl
theorem eOwn_ok:∀ (l:List (SM P)) (wl:List SD) (b:Nat),slotsOf b (argsL l wl)=(eOwn b l).map wsl
 | [],wl,b=>rfl
 | ⟨.v t,x⟩::r,wl,b=>eOwn_ok r wl b
 | ⟨.o t mk,x⟩::r,wl,b=>by
  have e1:=tthaw_ok 0 b (maskT mk ((cells t x).map .c));rw [maskT_pv,cells_c] at e1;simp only [argsL,slotsOf,eOwn,mkR1_cs t (maskP mk (enc t x)) (by rw [maskP_len,enc_len]),List.map_append];rw [eOwn_ok r,e1,List.length_map]
 | ⟨.w t,x⟩::r,wl,b=>eOwn_ok r wl.tail b
 | ⟨.rp t,x⟩::r,wl,b=>eOwn_ok r wl b
 | ⟨.f a r',q⟩::r,wl,b=>eOwn_ok r wl b
 | ⟨.k f,_⟩::r,wl,b=>eOwn_ok r wl b
 | ⟨.rq t,_⟩::r,wl,b=>eOwn_ok r wl b
theorem ent_img (l:List (SM P)) (wl:List SD):entry n (argsL l wl)=img n (entT l):=by
 unfold entry;rw [eWins_ok,List.length_map,eRegs_ok,eOwn_ok];exact setTs_slots (n:=n) (eOwn (eWins l).length l) (eWins l) ((eRegs 0 0 (eWins l).length l).map fun e=>(e.1,e.2.rv))
theorem eOwn_ids:∀ (l:List (SM P)) (b:Nat),(eOwn b l).map (·.1)=List.range' b (eOwn b l).length
 | [],b=>rfl
 | ⟨.v t,x⟩::r,b=>eOwn_ids r b
 | ⟨.o t mk,x⟩::r,b=>by
  simp only [eOwn,List.map_append,List.length_append];rw [tthaw_ids,eOwn_ids r,←List.range'_append_1]
 | ⟨.w t,x⟩::r,b=>eOwn_ids r b
 | ⟨.rp t,x⟩::r,b=>eOwn_ids r b
 | ⟨.f a r',q⟩::r,b=>eOwn_ids r b
 | ⟨.k f,_⟩::r,b=>eOwn_ids r b
 | ⟨.rq t,_⟩::r,b=>eOwn_ids r b
theorem eOwn_blk:∀ {l:List (SM P)} {b:Nat} {e:Nat×TB},e∈eOwn b l→(∃ t l,e.2=.sl t 0 l)∨∃ k,e.2=.nb 0 k
 | ⟨.v t,x⟩::r,b,e,h=>eOwn_blk (l:=r) h
 | ⟨.o t mk,x⟩::r,b,e,h=>by
  rcases lma.1 h with h|h
  ·exact (tthaw_blk h).2
  ·exact eOwn_blk h
 | ⟨.w t,x⟩::r,b,e,h=>eOwn_blk (l:=r) h
 | ⟨.rp t,x⟩::r,b,e,h=>eOwn_blk (l:=r) h
 | ⟨.f a r',q⟩::r,b,e,h=>eOwn_blk (l:=r) h
 | ⟨.k f,_⟩::r,b,e,h=>eOwn_blk (l:=r) h
 | ⟨.rq t,_⟩::r,b,e,h=>eOwn_blk (l:=r) h
theorem eWins_blk:∀ {l:List (SM P)} {x:TB},x∈eWins l→∃ cs:List SC,x=.var true (cs.map .c)
 | ⟨.v t,x⟩::r,y,h=>eWins_blk (l:=r) h
 | ⟨.o t mk,x⟩::r,y,h=>eWins_blk (l:=r) h
 | ⟨.w t,x⟩::r,y,h=>by
  rcases List.mem_cons.1 h with rfl|h
  ·exact ⟨_,rfl⟩
  ·exact eWins_blk h
 | ⟨.rp t,x⟩::r,y,h=>eWins_blk (l:=r) h
 | ⟨.f a r',q⟩::r,y,h=>eWins_blk (l:=r) h
 | ⟨.k f,_⟩::r,y,h=>eWins_blk (l:=r) h
 | ⟨.rq t,_⟩::r,y,h=>eWins_blk (l:=r) h
theorem eRegs_cell:∀ {l:List (SM P)} {i w b:Nat} {e:Nat×TV} {c:TC},SMOk l→e∈eRegs i w b l→c∈e.2.cs→(∀ h g,cok P h g c)∨∃ id tb m,c=.ref id 0 m∧(id,tb)∈eOwn b l∧∀ v m',vlen tb=some (v,m')→m=m'
 | ⟨.v t,x⟩::r,i,w,b,e,c,hs,h,hc=>by
  rcases List.mem_cons.1 h with rfl|h
  ·rcases mkTR_cs hc with k|rfl
   ·obtain ⟨y,rfl⟩:=shL_c k;exact .inl fun _ _=>trivial
   ·exact .inl fun _ _=>trivial
  ·exact eRegs_cell (l:=r) hs h hc
 | ⟨.o t mk,x⟩::r,i,w,b,e,c,hs,h,hc=>by
  rcases List.mem_cons.1 h with rfl|h
  ·rcases mkTR_cs hc with k|rfl
   ·rcases tthaw_cell k with k|⟨id,tb,m,k1,k2,k3⟩
    ·rcases maskT_mem k with k|rfl
     ·obtain ⟨y,_,rfl⟩:=List.mem_map.1 k;exact .inl fun _ _=>trivial
     ·exact .inl fun _ _=>trivial
    ·exact .inr ⟨id,tb,m,k1,List.mem_append_left _ k2,k3⟩
   ·exact .inl fun _ _=>trivial
  ·rcases eRegs_cell (l:=r) hs h hc with k|⟨id,tb,m,k1,k2,k3⟩
   ·exact .inl k
   ·exact .inr ⟨id,tb,m,k1,List.mem_append_right _ k2,k3⟩
 | ⟨.w t,x⟩::r,i,w,b,e,c,hs,h,hc=>by
  rcases List.mem_cons.1 h with rfl|h
  ·have:c=.vp w 0:=by simpa [TV.cs,TR.cs] using hc
   subst this;exact .inl fun _ _=>trivial
  ·exact eRegs_cell (l:=r) hs h hc
 | ⟨.rp t,x⟩::r,i,w,b,e,c,hs,h,hc=>by
  rcases List.mem_cons.1 h with rfl|h
  ·have:c=.rp (cells t x) 0:=by simpa [TV.cs,TR.cs] using hc
   subst this;exact .inl fun _ _=>trivial
  ·exact eRegs_cell (l:=r) hs h hc
 | ⟨.f a r',q⟩::r,i,w,b,e,c,hs,h,hc=>by
  rcases List.mem_cons.1 h with rfl|h
  ·have:c=.fv q.f q.m a r' q.p:=by simpa [TV.cs,TR.cs] using hc
   subst this;exact .inl fun _ _=>hs.1
  ·exact eRegs_cell (l:=r) hs.2 h hc
 | ⟨.k f,_⟩::r,i,w,b,e,c,hs,h,hc=>by
  rcases List.mem_cons.1 h with rfl|h
  ·have:c=.fn f []:=by simpa [TV.cs,TR.cs] using hc
   subst this;exact .inl fun _ _=>trivial
  ·exact eRegs_cell (l:=r) hs h hc
 | ⟨.rq t,x⟩::r,i,w,b,e,c,hs,h,hc=>by
  rcases List.mem_cons.1 h with rfl|h
  ·have:c=.rq (cells t x):=by simpa [TV.cs,TR.cs] using hc
   subst this;exact .inl fun _ _=>trivial
  ·exact eRegs_cell (l:=r) hs h hc
theorem ent_inv (l:List (SM P)) (hs:SMOk l):Inv P (entT l) where
 regs:=fun e he c hc=>by
  rcases eRegs_cell hs he hc with k|⟨id,tb,m,rfl,k2,k3⟩
  ·exact k _ _
  ·have hnd:((eOwn (eWins l).length l).map (·.1)).Nodup:=by rw [eOwn_ids];exact List.nodup_range'
   have hg:=setTs_get (h:=eWins l) hnd k2;refine ⟨Nat.one_pos,fun m' hm' => ?_⟩;have hm':vlen (tbAt (setTs (eWins l) (eOwn (eWins l).length l)) id)=some (0,m'):=hm';rw [hg] at hm';exact k3 _ _ hm'
 blks:=fun i=>by
  show bok P _ 1 (tbAt (setTs (eWins l) (eOwn (eWins l).length l)) i);rcases setTs_or (eOwn (eWins l).length l) (eWins l) i with k|⟨x,k1,k2⟩
  ·rw [k,tbAt_get];cases hi:(eWins l)[i]? with
   | none=>trivial
   | some b =>
    obtain ⟨cs,rfl⟩:=eWins_blk (List.mem_of_getElem? hi);intro c hc;obtain ⟨y,_,rfl⟩:=List.mem_map.1 hc
    trivial
  ·rw [k2];rcases eOwn_blk k1 with ⟨t,l',e⟩|⟨k,e⟩
   ·rw [show x=_ from e];exact Nat.one_pos
   ·rw [show x=_ from e];exact Nat.one_pos
theorem look_cok (hI:Inv P τ) (t:Nat):∀ c∈(lookT τ.r t).cs,cok P τ.h τ.g c:=by
 intro c hc;rcases lookT_mem τ.r t with k|⟨z,hz,k1,k2⟩
 ·rw [k] at hc;simp [TV.cs] at hc
 ·rw [k2] at hc;exact hI.regs z hz c hc
theorem mkR1_shr (t:Ty) (l:List PV):(mkR1 t l).shr=mkR1 t (l.map PV.sh):=by
 cases ha:t.agg with
 | true=>simp only [mkR1_agg ha,R1.shr]
 | false =>
  simp only [mkR1_one ha,R1.shr];cases l<;>rfl
theorem ofM_ok {m:Bool} {t:Ty} {xs:List SC} {v:Den t} (h:ofM m t xs=some v):match m with
  | true=>ImpL ((xs.map SC.pv).map PV.sh) (enc t v)
  | false=>xs.map SC.pv=enc t v:=by
 cases m with
 | true=>exact ofS_ok h
 | false=>have:=ofC_ok h;rw [sho_t] at this;exact this
def ResM (m:Bool) (res:List R1) (l:List SD):Prop:=match m with
 | true=>ImpRs (res.map R1.shr) (l.map resR)
 | false=>res=l.map resR
theorem ResM.cons {m:Bool} {res:List R1} {l:List SD} {t:Ty} {xs:List SC} {v:Den t} (h:ResM m res l) (hv:ofM m t xs=some v):ResM m (mkR1 t (xs.map SC.pv)::res) (⟨t,v⟩::l):=by
 have:=ofM_ok hv;cases m with
 | true =>
  have h:ImpRs (res.map R1.shr) (l.map resR):=h;have this:ImpL ((xs.map SC.pv).map PV.sh) (enc t v):=this;show ImpR (mkR1 t (xs.map SC.pv)).shr (resR ⟨t,v⟩)∧ImpRs (res.map R1.shr) (l.map resR);refine ⟨?_,h⟩;rw [mkR1_shr];exact this.toR (enc_len t v)
 | false =>
  have h:res=l.map resR:=h;have this:xs.map SC.pv=enc t v:=this;show mkR1 t (xs.map SC.pv)::res=List.map resR (⟨t,v⟩::l);simp only [List.map_cons,this,h,resR]
theorem ofM_len {m:Bool} {t:Ty} {xs:List SC} {v:Den t} (h:ofM m t xs=some v):xs.length=t.sz:=by
 have:=ofM_ok h;cases m with
 | true =>
  have this:ImpL ((xs.map SC.pv).map PV.sh) (enc t v):=this;have:=this.len;simpa [enc_len] using this
 | false =>
  have this:xs.map SC.pv=enc t v:=this;have:=congrArg List.length this;simpa [enc_len] using this
theorem mkR1_nr (t:Ty) (xs:List SC) (hl:xs.length=t.sz):∀ q∈(mkR1 t (xs.map SC.pv)).cs,NoRef q:=by
 cases ha:t.agg with
 | true=>rw [mkR1_agg ha];exact nr_map
 | false =>
  rw [mkR1_one ha];intro q hq;have hq:q=(xs.map SC.pv).headD .un:=by simpa [R1.cs] using hq
  subst hq;cases xs with
  | nil=>have:=sz_pos t;simp at hl;omega
  | cons x r=>exact x.nr
theorem resT_ok (hI:Inv P τ) {m:Bool}:∀ {rs:List Rk} {ts:List Ty} {l:List SD} {ids:List Nat},resT m τ rs ts=some (l,ids)→∃ res,resF (img n τ) rs=some (res,ids)∧l.map (·.1)=ts∧ResM m res l∧∀ y∈res,∀ q∈y.cs,NoRef q
 | [],[],l,ids,h=>by
  simp only [resT,osi,Prod.mk.injEq] at h;obtain ⟨rfl,rfl⟩:=h;exact ⟨[],rfl,rfl,by cases m<;>first|rfl|trivial,by simp⟩
 | .t z::r,t::ts,l,ids,h=>by
  simp only [resT] at h;split at h
  ·rename_i cs hcs;split at h
   ·rename_i xs i l' is hx hr;split at h
    ·rename_i v hv;simp only [osi,Prod.mk.injEq] at h;obtain ⟨rfl,rfl⟩:=h;obtain ⟨res,i1,i2,i3,i4⟩:=resT_ok hI hr;have hv2:=look_cok hI z;have hck:∀ c∈cs,cok P τ.h τ.g c:=by
      rcases cellsR_ok hcs with ⟨e1,_⟩|⟨c,e1,_,e2⟩
      ·rw [e1] at hv2;exact hv2
      ·subst e2;intro c' hc';rw [e1] at hv2;exact hv2 c' (by simpa [TV.cs,TR.cs] using hc')
     have ht:=ownL_ok (n:=n) hI hck hx;have hreg:(img n τ).reg z=.r (mkR1 t (cs.map TC.pv)):=by
      rw [img_reg];rcases cellsR_ok hcs with ⟨e1,ha⟩|⟨c,e1,ha,rfl⟩
      ·rw [e1,mkR1_agg ha];rfl
      ·rw [e1,mkR1_one ha];rfl
     have htk:takeR (img n τ) (mkR1 t (cs.map TC.pv))=some (mkR1 t (xs.map SC.pv),i):=by
      rcases cellsR_ok hcs with ⟨e1,ha⟩|⟨c,e1,ha,rfl⟩
      ·simp only [mkR1_agg ha,takeR,ht]
      ·simp only [mkR1_one ha,List.map_cons,List.map_nil,List.headD_cons,takeR];simp only [List.map_cons,List.map_nil,takeL] at ht;split at ht
       ·rename_i q i0 qs is0 h1 h2;simp only [osi,Prod.mk.injEq] at h2 ht;obtain ⟨rfl,rfl⟩:=h2;obtain ⟨ht1,ht2⟩:=ht;rw [List.append_nil] at ht2;subst ht2;simp only [h1,←ht1,List.headD_cons]
       ·cases ht
     refine ⟨mkR1 t (xs.map SC.pv)::res,?_,by simp [i2],i3.cons hv,fun y hy => ?_⟩
     ·simp only [resF,hreg,htk,i1]
     ·rcases List.mem_cons.1 hy with rfl|hy
      ·exact mkR1_nr t xs (ofM_len hv)
      ·exact i4 y hy
    ·cases h
   ·cases h
  ·cases h
 | .c z k::r,t::ts,l,ids,h=>by
  simp only [resT] at h;split at h
  ·rename_i id hm;split at h
   ·rename_i w cs hB;split at h
    ·rename_i hlen hag;have hlen:=nbe hlen;rw [beq_iff_eq] at hag;split at h
     ·rename_i xs i l' is hx hr;split at h
      ·rename_i v hv;simp only [osi,Prod.mk.injEq] at h;obtain ⟨rfl,rfl⟩:=h;obtain ⟨res,i1,i2,i3,i4⟩:=resT_ok hI hr;have hck:∀ c∈cs,cok P τ.h τ.g c:=by
        have:=hI.blks id;rw [hB] at this;exact this
       have ht:=ownL_ok (n:=n) hI hck hx;have hp:(img n τ).ev1 (.t z)=.ptr id 1 0 0:=by
        show (match (img n τ).reg z with|.r (.one p)=>p|_=>.un)=_;rw [img_reg,hm];rfl
       have hs:(img n τ).slot id=.live ⟨if w then 2 else 1,cs.length,[],[cs.map TC.pv]⟩:=by rw [img_slot,hB];rfl
       have hmk:mkR k (xs.map SC.pv)=mkR1 t (xs.map SC.pv):=by
        cases k with
        | none=>simp only [mkR,mkR1_one (show t.agg=false from hag)]
        | some k=>simp only [mkR,mkR1_agg (show t.agg=true from hag)]
       refine ⟨mkR1 t (xs.map SC.pv)::res,?_,by simp [i2],i3.cons hv,fun y hy => ?_⟩
       ·simp only [resF,hp,hs,List.length_map,if_pos hlen,ht,i1,hmk]
       ·rcases List.mem_cons.1 hy with rfl|hy
        ·exact mkR1_nr t xs (ofM_len hv)
        ·exact i4 y hy
      ·cases h
     ·cases h
    ·cases h
   ·cases h
  ·cases h
 | [],_::_,_,_,h=>by cases h
 | .t _::_,[],_,_,h=>by cases h
 | .c _ _::_,[],_,_,h=>by cases h
theorem winsT_ok:∀ {l:List (SM P)} {i:Nat} {ws:List SD},winsT τ.h i (winT (l.map (·.1)))=some ws→winsK (img n τ) i (argsL l ws)∧ws.map (·.1)=winT (l.map (·.1))
 | [],i,ws,h=>by
  have h:some []=some ws:=h;injection h with h;subst h;exact ⟨trivial,rfl⟩
 | ⟨.v t,x⟩::r,i,ws,h=>winsT_ok (l:=r) h
 | ⟨.o t mk,x⟩::r,i,ws,h=>winsT_ok (l:=r) h
 | ⟨.rp t,x⟩::r,i,ws,h=>winsT_ok (l:=r) h
 | ⟨.f a r',q⟩::r,i,ws,h=>winsT_ok (l:=r) h
 | ⟨.k f,_⟩::r,i,ws,h=>winsT_ok (l:=r) h
 | ⟨.rq t,_⟩::r,i,ws,h=>winsT_ok (l:=r) h
 | ⟨.w t,x⟩::r,i,ws,h=>by
  simp only [List.map_cons,winT,winsT] at h;split at h
  ·rename_i w cs hB;split at h
   ·rename_i xs hxs;split at h
    ·rename_i v l hv hl;injection h with h;subst h;obtain ⟨i1,i2⟩:=winsT_ok (l:=r) hl;refine ⟨⟨⟨⟨if w then 2 else 1,cs.length,[],[cs.map TC.pv]⟩,by rw [img_slot,hB];rfl,?_,?_⟩,i1⟩,by simp [winT,i2]⟩
     ·show [cs.map TC.pv]=[enc t v]
      rw [toV_ok hxs hv]
     ·exact enc_nr t v
    ·cases h
   ·cases h
  ·cases h
theorem inL_ms:∀ (ms:List PM) (x:DenMs P ms),(inL P ms x).map (·.1)=ms
 | [],_=>rfl
 | [m],_=>rfl
 | m::m'::ms,x=>by simp only [inL,List.map_cons,inL_ms (m'::ms) x.2]
theorem geAll_ok {n:Nat}:∀ {l:List Nat},geAll n l=true→∀ i∈l,n≤i
 | [],_,i,h=>by cases h
 | x::r,h,i,hi=>by
  simp only [geAll,bae] at h;rcases List.mem_cons.1 hi with rfl|hi
  ·exact Nat.le_of_ble_eq_true h.1
  ·exact geAll_ok h.2 i hi
theorem argsL_len:∀ (l:List (SM P)) (wl:List SD),(argsL l wl).length=l.length
 | [],_=>rfl
 | ⟨.v t,x⟩::r,wl=>congrArg (·+1) (argsL_len r wl)
 | ⟨.o t mk,x⟩::r,wl=>congrArg (·+1) (argsL_len r wl)
 | ⟨.rp t,x⟩::r,wl=>congrArg (·+1) (argsL_len r wl)
 | ⟨.f a r',q⟩::r,wl=>congrArg (·+1) (argsL_len r wl)
 | ⟨.k f,_⟩::r,wl=>congrArg (·+1) (argsL_len r wl)
 | ⟨.rq t,_⟩::r,wl=>congrArg (·+1) (argsL_len r wl)
 | ⟨.w t,x⟩::r,wl=>congrArg (·+1) (argsL_len r wl.tail)
theorem eWins_len:∀ (l:List (SM P)),(eWins l).length=(winT (l.map (·.1))).length
 | []=>rfl
 | ⟨.v t,x⟩::r=>eWins_len r
 | ⟨.o t mk,x⟩::r=>eWins_len r
 | ⟨.rp t,x⟩::r=>eWins_len r
 | ⟨.f a r',q⟩::r=>eWins_len r
 | ⟨.k f,_⟩::r=>eWins_len r
 | ⟨.rq t,_⟩::r=>eWins_len r
 | ⟨.w t,x⟩::r=>congrArg (·+1) (eWins_len r)
theorem tres_ok (hI:Inv P τ) {s:Sig} {rs:List Rk} {x:DenMs P s.ms} {y:DenOs s.outs} (h:tres n rs s τ=some y):∃ σ' res,Wk G (img n τ) σ'∧ResM (noSls s.rs) res ((outL s.outs y).take s.rs.length)∧doneK rs (argsL (inL P s.ms x) ((outL s.outs y).drop s.rs.length)) res σ':=by
 unfold tres at h;simp only at h;split at h
 ·rename_i l ids ws h1 h2;split at h
  ·rename_i hc;rw [bae] at hc;have ho:=mkOs_ok h;have ht:=norm_tidy (n:=n) hI [] (rkRegs rs);obtain ⟨res,r1,r2,r3,r4⟩:=resT_ok (n:=n) ht.inv h1;have hlen:l.length=s.rs.length:=by rw [← r2,List.length_map]
   have htk:(l++ws).take s.rs.length=l:=by rw [← hlen,List.take_left'];rfl
   have hdp:(l++ws).drop s.rs.length=ws:=by rw [← hlen,List.drop_left'];rfl
   have hms:=inL_ms s.ms x;have hw:=winsT_ok (P:=P) (n:=n) (τ:=norm n [] (rkRegs rs) τ) (l:=inL P s.ms x) (i:=0) (ws:=ws) (by rw [hms];exact h2);refine ⟨_,res,ht.wk G,by rw [ho,htk];exact r3,ids,r1,r4,nodupB_ok hc.1,?_,?_⟩
   ·intro i hi;have:=geAll_ok hc.2 i hi;rw [eWins_ok,List.length_map,eWins_len,hms];exact this
   ·rw [ho,hdp];exact hw.1
  ·cases h
 ·cases h
theorem boxT_ok (hI:Inv P τ) {t:Nat} {s:Sig} {y:DenOs s.outs} (h:boxT n t s τ=some y):∃ σ',Wk G (img n τ) σ'∧doneB t ((outL s.outs y).flatMap fun w=>enc w.1 w.2) σ':=by
 unfold boxT at h;simp only at h;split at h
 ·rename_i id hl;split at h
  ·rename_i cs hB;split at h
   ·rename_i xs hf hx;split at h
    ·rename_i v hv;have ho:=mkOs_ok h;have ht:=norm_tidy (n:=n) hI [] [t];have e:=toV_ok hx hv;refine ⟨_,ht.wk G,id,cs.length,[],?_,?_,?_⟩
     ·rw [img_reg,hl];rfl
     ·rw [img_slot,hB,ho];simp only [TB.slot,List.flatMap_cons,List.flatMap_nil,List.append_nil,e];rfl
     ·rw [ho];simp only [List.flatMap_cons,List.flatMap_nil,List.append_nil];exact fun p hp=>⟨enc_nr _ _ p hp,enc_fr _ hf _ p hp⟩
    ·cases h
   ·cases h
  ·cases h
 ·cases h
noncomputable def runE (tab:List (AEnt P)) (n:Nat) (s:Sig) (rs:List Rk) (c:TCd) (x:DenMs P s.ms):Option (DenOs s.outs) :=
 trun tab n c (entT (inL P s.ms x)) (endK (tres n rs s))
noncomputable def mkE (tab:List (AEnt P)) (id n:Nat) (s:Sig) (rs:List Rk) (x:TCd) (hm:P.follows .mixedOrders=true) {fn:Func} {c:Code} {rv:List ResultVar}
  (hf : P.funcs[id]? = some fn) (hb : fn.body = some c) (hr : fn.results = rv.toArray) (hrv : cRess P rv = some rs) (hnt : fn.ntmps = n) (hc : cCode P n c = x.ac) (hn : Nat.ble s.ms.length n = true) (hname : (fn.name == "runtime.NumGoroutine") = false) (hbx : s.box = false) : Ent P s where
 id:=id
 f:=runE tab n s rs x
 ok:=fun v y hsm h=>by
  unfold ConE;split
  ·have hlen:(argsL (inL P s.ms v) ((outL s.outs y).drop s.rs.length)).length≤n:=by
    rw [argsL_len,←List.length_map,inL_ms];exact Nat.le_of_ble_eq_true hn
   have key:∀ G,TA P G [] n x.ac (entry n (argsL (inL P s.ms v) ((outL s.outs y).drop s.rs.length))) fun e σ=>(e=.normal∨e=.ret)∧∃ res,ResM (noSls s.rs) res ((outL s.outs y).take s.rs.length)∧doneK rs (argsL (inL P s.ms v) ((outL s.outs y).drop s.rs.length)) res σ:=by
    intro G;rw [ent_img];refine TA.post ((trun_ok hm x (ent_inv _ hsm) h).mono fun e σ hq => ?_);obtain ⟨τ',rfl,hI',_,hk⟩:=hq;cases e with
    | normal =>
     obtain ⟨σ',res,h1,h2,h3⟩:=tres_ok (G:=G) (x:=v) hI' hk;exact ⟨σ',h1,.inl rfl,res,h2,h3⟩
    | ret =>
     obtain ⟨σ',res,h1,h2,h3⟩:=tres_ok (G:=G) (x:=v) hI' hk;exact ⟨σ',h1,.inr rfl,res,h2,h3⟩
    | _=>cases hk
   cases hns:noSls s.rs with
   | true =>
    refine con_ofS hf hb hr hrv hnt hc hlen hname (fun G=>(key G).mono fun e σ hq => ?_) ?_
    ·obtain ⟨he,res,h1,h2⟩:=hq;rw [hns] at h1;exact ⟨he,res,h1,h2⟩
    ·intro y hy p hp;obtain ⟨w,_,rfl⟩:=List.mem_map.1 hy;rw [resR,←cells_pv] at hp;exact mkR1_nr w.1 _ (cells_len _ _) p hp
   | false =>
    refine con_ofA hf hb hr hrv hnt hc hlen hname fun G=>(key G).mono fun e σ hq => ?_
    obtain ⟨he,res,h1,h2⟩:=hq;rw [hns] at h1;have h1:res=_:=h1;rw [← h1];exact ⟨he,h2⟩
  ·rename_i hbx';rw [hbx] at hbx';cases hbx'
noncomputable def runEB (tab:List (AEnt P)) (n:Nat) (s:Sig) (t:Nat) (c:TCd) (x:DenMs P s.ms):Option (DenOs s.outs) :=
 trun tab n c (entT (inL P s.ms x)) (endK (boxT n t s))
noncomputable def mkEB (tab:List (AEnt P)) (id n:Nat) (s:Sig) (t:Nat) (x:TCd) (hm:P.follows .mixedOrders=true) {fn:Func} {c:Code}
  (hf : P.funcs[id]? = some fn) (hb : fn.body = some c) (hr : fn.results = [ResultVar.tmp t].toArray) (hnt : fn.ntmps = n) (hc : cCode P n c = x.ac) (hn : Nat.ble s.ms.length n = true) (hname : (fn.name == "runtime.NumGoroutine") = false) (hbx : s.box = true) : Ent P s where
 id:=id
 f:=runEB tab n s t x
 ok:=fun v y hsm h=>by
  unfold ConE;split
  ·rename_i hbx';rw [hbx] at hbx';cases hbx'
  ·refine conB_of hf hb hr hnt hc ?_ hname fun G => ?_
   ·rw [argsL_len,←List.length_map,inL_ms];exact Nat.le_of_ble_eq_true hn
   ·rw [ent_img];refine TA.post ((trun_ok hm x (ent_inv _ hsm) h).mono fun e σ hq => ?_);obtain ⟨τ',rfl,hI',_,hk⟩:=hq;cases e with
    | normal =>
     obtain ⟨σ',h1,h2⟩:=boxT_ok (G:=G) hI' hk;exact ⟨_,Wk.refl _,.inl rfl,σ',h1,h2⟩
    | ret =>
     obtain ⟨σ',h1,h2⟩:=boxT_ok (G:=G) hI' hk;exact ⟨_,Wk.refl _,.inr rfl,σ',h1,h2⟩
    | _=>cases hk
end
def insL (x:Nat):List Nat→List Nat
 | []=>[x]
 | y::r=>match Nat.beq x y with
  | true=>y::r
  | false=>match Nat.ble x y with
   | true=>x::y::r
   | false=>y::insL x r
def uniL:List Nat→List Nat→List Nat
 | [],l=>l
 | x::r,l=>insL x (uniL r l)
def remL (x:Nat):List Nat→List Nat
 | []=>[]
 | y::r=>match Nat.beq x y with
  | true=>r
  | false=>y::remL x r
def remO:Option Nat→List Nat→List Nat
 | some x,l=>remL x l
 | none,l=>l
def gRegs:Option (Nat×Bool)→List Nat
 | some (t,_)=>[t]
 | none=>[]
def ixReg:Ix→List Nat
 | .t n=>[n]
 | .k _=>[]
def liveOps:List AOp→List Nat→List Nat
 | [],L=>L
 | x::r,L=>uniL (gRegs x.g) (uniL (ixRegs x.k.ixs) (remO x.d (liveOps r L)))
def lkE:List (Nat×List Nat)→Nat→List Nat
 | [],_=>[]
 | (j,l)::r,i=>match Nat.beq i j with
  | true=>l
  | false=>lkE r i
def live (rt:List Nat):AC→List (Nat×List Nat)→List Nat→List Nat
 | .reg ops,ex,L=>liveOps ops L
 | .dreg _ ops,ex,L=>liveOps ops L
 | .seq x y,ex,L=>live rt x ex (live rt y ex L)
 | .cond c x y,ex,L=>uniL (ixReg c) (uniL (live rt x ex L) (live rt y ex L))
 | .block i x,ex,L=>live rt x ((i,L)::ex) L
 | .loop x,ex,L=>live rt x ex (live rt x ex [])
 | .exit i,ex,L=>lkE ex i
 | .ret,ex,L=>rt
 | .skip,_,L=>L
 | .bad,_,_=>[]
structure Hint where
 i:Nat
 ps:List (Exit×TPl×List Nat)
 gh:List (Nat×List (Nat×Nat)):=[]
 sp:Option Nat:=none
def lkS:List Hint→Nat→Option Nat
 | [],_=>none
 | h::r,i=>match Nat.beq i h.i,h.sp with
  | true,some m=>some m
  | _,_=>lkS r i
def lkH:List Hint→Nat→Option (List (Exit×TPl×List Nat))
 | [],_=>none
 | h::r,i=>match Nat.beq i h.i,h.ps with
  | true,p::ps=>some (p::ps)
  | _,_=>lkH r i
def lkG:List Hint→Nat→List (Nat×List (Nat×Nat))
 | [],_=>[]
 | h::r,i=>match Nat.beq i h.i,h.gh with
  | true,p::ps=>p::ps
  | _,_=>lkG r i
def ghC (hs:List Hint) (i:Nat) (c:TCd):TCd:=match lkG hs i with
 | []=>c
 | p::ps=>.gh (p::ps) c
theorem ghC_ac {hs:List Hint} {i:Nat} {c:TCd}:(ghC hs i c).ac=c.ac:=by
 unfold ghC;split<;>rfl
def lvOf (rt:List Nat) (ex:List (Nat×List Nat)) (L:List Nat):Exit→List Nat
 | .normal=>L
 | .exit i=>lkE ex i
 | .ret=>rt
 | _=>[]
def ports (rt:List Nat) (ex:List (Nat×List Nat)) (L:List Nat):List (Exit×TPl×List Nat)→List (Exit×Port)
 | []=>[]
 | (e,T,fz)::r=>(e,⟨T,lvOf rt ex L e,fz⟩)::ports rt ex L r
def annO:List AOp→List Ty→List (AOp×Option Ty)×List Ty
 | [],es=>([],es)
 | x::r,es=>match x.k with
  | .bsl .. => match es with
   | t::es=>((x,some t)::(annO r es).1,(annO r es).2)
   | []=>((x,none)::(annO r []).1,(annO r []).2)
  | .mks .. => match es with
   | t::es=>((x,some t)::(annO r es).1,(annO r es).2)
   | []=>((x,none)::(annO r []).1,(annO r []).2)
  | _=>((x,none)::(annO r es).1,(annO r es).2)
structure An where
 c:TCd
 L:List Nat
 i:Nat
 es:List Ty
def join' (hs:List Hint) (i:Nat) (rt:List Nat) (ex:List (Nat×List Nat)) (L:List Nat) (c:TCd):TCd :=
 match lkH hs i with
 | some ps=>.join (ports rt ex L ps) c
 | none=>c
def ann (hs:List Hint) (fz:List (Nat×List Nat)) (rt:List Nat):AC→List (Nat×List Nat)→List Nat→Nat→List Ty→An
 | .skip,ex,L,i,es=>⟨.skip,L,i,es⟩
 | .reg ops,ex,L,i,es=>⟨join' hs i rt ex L (.reg (annO ops es).1 L (lkE fz i)),liveOps ops L,i+1,(annO ops es).2⟩
 | .dreg ord ops,ex,L,i,es=>⟨join' hs i rt ex L (ghC hs i (match lkS hs i with
  | some m=>.dregS ord (annO ops es).1 m L (lkE fz i)
  | none=>.dreg ord (annO ops es).1 L (lkE fz i))),liveOps ops L,i+1,(annO ops es).2⟩
 | .seq x y,ex,L,i,es =>
  let b:=ann hs fz rt y ex L i es
  let a:=ann hs fz rt x ex b.L b.i b.es
  ⟨.seq a.c b.c,a.L,a.i,a.es⟩
 | .cond c x y,ex,L,i,es =>
  let b:=ann hs fz rt y ex L (i+1) es
  let a:=ann hs fz rt x ex L b.i b.es
  ⟨join' hs i rt ex L (.cond c a.c b.c),uniL (ixReg c) (uniL a.L b.L),a.i,a.es⟩
 | .block j x,ex,L,i,es =>
  let a:=ann hs fz rt x ((j,L)::ex) L (i+1) es
  ⟨join' hs i rt ex L (.block j a.c),a.L,a.i,a.es⟩
 | .loop x,ex,L,i,es =>
  let L1:=live rt (.loop x) ex []
  let a:=ann hs fz rt x ex L1 (i+1) es
  ⟨match lkH hs i with
   | some ((_,T,fz)::ps)=>.loop ⟨T,L1,fz⟩ (ports rt ex L ps) a.c
   | _=>match lkS hs i with
    | some k=>.unr k a.c
    | none=>.loop ⟨⟨[],[],[]⟩,L1,[]⟩ [] a.c,L1,a.i,a.es⟩
 | .exit j,ex,L,i,es=>⟨.exit j,lkE ex j,i,es⟩
 | .ret,ex,L,i,es=>⟨.ret,rt,i,es⟩
 | .bad,ex,L,i,es=>⟨.bad,[],i,es⟩
theorem annO_ops:∀ (l:List AOp) (es:List Ty),opsOf (annO l es).1=l
 | [],es=>rfl
 | x::r,es=>by
  have h:=fun es=>annO_ops r es
  simp only [opsOf] at h;simp only [annO];split
  ·split<;>simp only [opsOf,List.map_cons,h]
  ·split<;>simp only [opsOf,List.map_cons,h]
  ·simp only [opsOf,List.map_cons,h]
theorem join_ac {hs:List Hint} {i:Nat} {rt L:List Nat} {ex:List (Nat×List Nat)} {c:TCd}:(join' hs i rt ex L c).ac=c.ac:=by
 unfold join';split<;>rfl
theorem ann_ac {hs:List Hint} {fz:List (Nat×List Nat)} {rt:List Nat}:∀ (x:AC) (ex:List (Nat×List Nat)) (L:List Nat) (i:Nat) (es:List Ty),(ann hs fz rt x ex L i es).c.ac=x
 | .skip,ex,L,i,es=>rfl
 | .reg ops,ex,L,i,es=>by simp only [ann,join_ac,TCd.ac,annO_ops]
 | .dreg ord ops,ex,L,i,es=>by
  simp only [ann,join_ac,ghC_ac];split<;>simp only [TCd.ac,annO_ops]
 | .seq x y,ex,L,i,es=>by simp only [ann,TCd.ac,ann_ac x,ann_ac y]
 | .cond c x y,ex,L,i,es=>by simp only [ann,join_ac,TCd.ac,ann_ac x,ann_ac y]
 | .block j x,ex,L,i,es=>by simp only [ann,join_ac,TCd.ac,ann_ac x]
 | .loop x,ex,L,i,es=>by
  simp only [ann];split
  ·simp only [TCd.ac,ann_ac x]
  ·split<;>simp only [TCd.ac,ann_ac x]
 | .exit j,ex,L,i,es=>rfl
 | .ret,ex,L,i,es=>rfl
 | .bad,ex,L,i,es=>rfl
def annF (hs:List Hint) (es:List Ty) (fz:List (Nat×List Nat)) (rt:List Nat) (x:AC):TCd:=(ann hs fz rt x [] rt 0 es).c
structure AnI where
 c:ICd
 L:List Nat
 es:List Ty
def annI (rt:List Nat):AC→List (Nat×List Nat)→List Nat→List Ty→AnI
 | .skip,ex,L,es=>⟨.skip,L,es⟩
 | .reg ops,ex,L,es=>⟨.reg (annO ops es).1 L,liveOps ops L,(annO ops es).2⟩
 | .dreg ord ops,ex,L,es=>⟨.dreg ord (annO ops es).1 L,liveOps ops L,(annO ops es).2⟩
 | .seq x y,ex,L,es =>
  let b:=annI rt y ex L es
  let a:=annI rt x ex b.L b.es
  ⟨.seq a.c b.c,a.L,a.es⟩
 | .cond c x y,ex,L,es =>
  let b:=annI rt y ex L es
  let a:=annI rt x ex L b.es
  ⟨.cond c a.c b.c,uniL (ixReg c) (uniL a.L b.L),a.es⟩
 | .block j x,ex,L,es =>
  let a:=annI rt x ((j,L)::ex) L es
  ⟨.block j a.c,a.L,a.es⟩
 | .loop x,ex,L,es =>
  let L1:=live rt (.loop x) ex []
  let a:=annI rt x ex L1 es
  ⟨.loop a.c,L1,a.es⟩
 | .exit j,ex,L,es=>⟨.exit j,lkE ex j,es⟩
 | .ret,ex,L,es=>⟨.ret,rt,es⟩
 | .bad,ex,L,es=>⟨.bad,[],es⟩
theorem annI_ac {rt:List Nat}:∀ (x:AC) (ex:List (Nat×List Nat)) (L:List Nat) (es:List Ty),(annI rt x ex L es).c.ac=x
 | .skip,ex,L,es=>rfl
 | .reg ops,ex,L,es=>congrArg AC.reg (annO_ops ops es)
 | .dreg ord ops,ex,L,es=>congrArg (AC.dreg ord) (annO_ops ops es)
 | .seq x y,ex,L,es=>by simp only [annI,ICd.ac,annI_ac x,annI_ac y]
 | .cond c x y,ex,L,es=>by simp only [annI,ICd.ac,annI_ac x,annI_ac y]
 | .block j x,ex,L,es=>by simp only [annI,ICd.ac,annI_ac x]
 | .loop x,ex,L,es=>by simp only [annI,ICd.ac,annI_ac x]
 | .exit j,ex,L,es=>rfl
 | .ret,ex,L,es=>rfl
 | .bad,ex,L,es=>rfl
def annG (rs:List Rk) (x:AC) (es:List Ty):ICd:=(annI (rkRegs rs) x [] (rkRegs rs) es).c
section
variable {P:Program}
def genI (id:Nat) (rs:List Rk) (es:List Ty) {fn:Func} {c:Code} {rv:List ResultVar}
  (hf : P.funcs[id]? = some fn) (hb : fn.body = some c) (hr : fn.results = rv.toArray) (hrv : cRess P rv = some rs) (hname : (fn.name == "runtime.NumGoroutine") = false) : InE P :=
 ⟨id,fn.ntmps,annG rs (cCode P fn.ntmps c) es,rs,fn,c,rv,hf,hname,hb,hr,hrv,rfl,(annI_ac _ _ _ es).symm⟩
end
section
variable {P:Program}
noncomputable def genE (tab:List (AEnt P)) (id:Nat) (s:Sig) (rs:List Rk) (hs:List Hint) (es:List Ty) (fz:List (Nat×List Nat)) (hm:P.follows .mixedOrders=true) {fn:Func} {c:Code} {rv:List ResultVar}
  (hf : P.funcs[id]? = some fn) (hb : fn.body = some c) (hr : fn.results = rv.toArray) (hrv : cRess P rv = some rs) (hn : Nat.ble s.ms.length fn.ntmps = true) (hname : (fn.name == "runtime.NumGoroutine") = false) (hbx : s.box = false) : Ent P s :=
 mkE tab id fn.ntmps s rs (annF hs es fz (rkRegs rs) (cCode P fn.ntmps c)) hm hf hb hr hrv rfl (ann_ac _ _ _ _ _).symm hn hname hbx
noncomputable def genB (tab:List (AEnt P)) (id:Nat) (s:Sig) (t:Nat) (hs:List Hint) (es:List Ty) (fz:List (Nat×List Nat)) (hm:P.follows .mixedOrders=true) {fn:Func} {c:Code}
  (hf : P.funcs[id]? = some fn) (hb : fn.body = some c) (hr : fn.results = [ResultVar.tmp t].toArray) (hn : Nat.ble s.ms.length fn.ntmps = true) (hname : (fn.name == "runtime.NumGoroutine") = false) (hbx : s.box = true) : Ent P s :=
 mkEB tab id fn.ntmps s t (annF hs es fz [t] (cCode P fn.ntmps c)) hm hf hb hr rfl (ann_ac _ _ _ _ _).symm hn hname hbx
end
open Go.RowKit
open Go.RowKit
def wr (k:IntKind) (n:Int):Int:=k.wrap n
def w6 (n:Int):Int:=IntKind.i64.wrap n
def ixo (k:IntKind) (x y:Int):Int:=k.wrap (BitVec.ofInt k.bits x ^^^ BitVec.ofInt k.bits y).toNat
def cl {A B:Type} (f:A→Option B):A→Option B:=fun q=>bd (f q) fun y=>some y
theorem cl_eq {A B:Type} (f:A→Option B):cl f=f:=by funext q;unfold cl bd;split<;>simp_all
theorem kept_below {w w':World} (h:Kept w w' (·∈([]:List Nat)) []):Below w.heap.size w w' :=
 ⟨h.os,h.tape,h.output,h.size,fun k hk=>h.old k hk (by simp) (by simp)⟩
theorem walk_of {P:Program} (E:Ent P ⟨[.v (.sl (.int .u8))],[.bool],false⟩) (hc:∀ l:List Int,(∀ x∈l,(Lit.int .u8 x).wf=true)→E.f l=some true)
  (a0:Option Addr) (len0 cap0:Nat) (z0:List Int) (w:World)
  (w0:(a0=none∧len0=0∧cap0=0∧z0=[])∨∃ x,a0=some x∧len0≤cap0∧cap0≤maxLen∧z0.length=cap0∧(∀ i,i<z0.length→w.cell? (x.add i)=some (.int .u8 (z0.getD i 0)))∧∀ n∈z0,(Lit.int .u8 n).wf=true)
  (y0:len0*1≤140737488351232):Calls P E.id #[.slice a0 len0 cap0] w fun e w'=>e=.returned (.bool true)∧Below w.heap.size w w':=by
 have hz:len0≤z0.length∧∀ n∈z0,(Lit.int .u8 n).wf=true:=by
  rcases w0 with ⟨_,rfl,_,rfl⟩|⟨x,_,h1,_,h2,_,h3⟩
  ·exact ⟨Nat.le_refl _,by simp⟩
  ·exact ⟨by omega,h3⟩
 have hlen:(z0.take len0).length=len0:=by rw [List.length_take];omega
 have hcap:len0≤cap0:=by
  rcases w0 with ⟨_,rfl,rfl,rfl⟩|⟨x,_,h1,_⟩
  ·exact Nat.le_refl _
  ·exact h1
 have hcon0:=E.ok (z0.take len0) true trivial (hc (z0.take len0) (fun x hx=>hz.2 x (List.mem_of_mem_take hx)));have hcon1:Con P E.id [.v (.one (.vs false 1 ((z0.take len0).map fun n=>[PV.i .u8 n])))] [.one (.b true)]:=hcon0;obtain ⟨_,hcon⟩:=hcon1
 let τ:Nat→Value:=fun _=>.bool true
 have hfl:((z0.take len0).map fun n=>[PV.i .u8 n]).flatten=(z0.take len0).map fun n=>PV.i .u8 n:=by
  induction z0.take len0 with
  | nil=>rfl
  | cons a l ih=>simp at ih ⊢;exact ih
 have harg:ArgsR w (fun g=>False∨g∈([]:List (List Nat)).flatten++([]:List (List Nat)).flatten) τ [.v (.one (.vs false 1 ((z0.take len0).map fun n=>[PV.i .u8 n])))] [.slice a0 len0 cap0] [] [] []:=by
  refine .v ?_ ?_ .nil
  rotate_left
  ·intro p hp;simp only [R1.cs,List.mem_singleton] at hp;subst hp;refine .vs fun c hc => ?_
   obtain ⟨n,_,rfl⟩:=List.mem_map.1 hc;intro p hp;simp only [List.mem_singleton] at hp;subst hp;exact .i
  show RC w _ _ (.vs false 1 ((z0.take len0).map fun n=>[PV.i .u8 n])) (.slice a0 len0 cap0) [];have e0:len0=((z0.take len0).map fun n=>[PV.i .u8 n]).length:=by rw [List.length_map,hlen]
  have key:RC w (fun g=>False∨g∈([]:List (List Nat)).flatten++([]:List (List Nat)).flatten) (X0 τ fun g=>False∨g∈([]:List (List Nat)).flatten++([]:List (List Nat)).flatten) (.vs false 1 ((z0.take len0).map fun n=>[PV.i .u8 n])) (.slice a0 ((z0.take len0).map fun n=>[PV.i .u8 n]).length cap0) []:=by
   refine .ro (xs:=(z0.take len0).map fun n=>Value.int .u8 n) (by rw [← e0];exact hcap) (fun c hc=>by obtain ⟨n,_,rfl⟩:=List.mem_map.1 hc;rfl) (by rw [hfl];simp) (fun j u hu => ?_) fun j p u hp hu => ?_
   ·rw [List.getElem?_map] at hu;obtain ⟨n,hn,rfl⟩:=Option.map_eq_some_iff.1 hu;rw [List.getElem?_take] at hn;split at hn
    ·rename_i hj;rcases w0 with ⟨_,rfl,_,rfl⟩|⟨x,hx,h1,_,h2,h4,h3⟩
     ·simp at hn
     ·refine ⟨x,hx,by simp,?_⟩;have hjz:j<z0.length:=by omega
      rw [h4 j hjz];rw [List.getElem?_eq_getElem hjz] at hn;simp [List.getD_eq_getElem?_getD,List.getElem?_eq_getElem hjz,Option.some.inj hn]
    ·cases hn
   ·rw [hfl,List.getElem?_map] at hp;rw [List.getElem?_map] at hu;obtain ⟨n,hn,rfl⟩:=Option.map_eq_some_iff.1 hp;rw [hn] at hu;simp only [Option.map_some,osi] at hu;subst hu;exact .i
  rw [← e0] at key;exact key
 refine Calls.mono (hcon w τ (fun _=>False) _ [] [] [] harg (by simp) (by simp) (by simp) (by simp)) fun e w' hq => ?_
 obtain ⟨u,rfl,hk,us,rf,fw,hu,hres,_⟩:=hq;cases hres with
 | cons h1 hn t =>
  cases t with
  | nil =>
   refine ⟨?_,kept_below hk⟩;have:RC w' _ _ (.b true) _ _:=h1;have hv:=this.b_inv;rw [hu,hv];rfl
mutual
inductive TyOk (P:Program):Ty→TypeId→Prop
 | int {k:IntKind} {t:TypeId} (h:P.underlying t=some (.int k)):TyOk P (.int k) t
 | bool {t:TypeId} (h:P.underlying t=some .bool):TyOk P .bool t
 | sl {T:Ty} {t e:TypeId} (h:P.underlying t=some (.slice e)) (hk:P.cellsOf e=T.sz) (hb:1≤P.bytesOf e) (hT:TyOk P T e):TyOk P (.sl T) t
 | st {T:Ty} {t:TypeId} {fs:Array Field} (h:P.underlying t=some (.struct fs)) (hc:P.cellsOf t=T.sz) (hf:FldOk P T fs.toList 0):TyOk P T t
inductive FldOk (P:Program):Ty→List Field→Nat→Prop
 | one {T:Ty} {f:Field} {o:Nat} (ho:f.offset=o) (hk:P.cellsOf f.type=T.sz) (h:TyOk P T f.type):FldOk P T [f] o
 | cons {a b:Ty} {f:Field} {r:List Field} {o:Nat} (ho:f.offset=o) (hk:P.cellsOf f.type=a.sz) (h:TyOk P a f.type) (hr:FldOk P b r (o+a.sz)):FldOk P (.pr a b) (f::r) o
end
def bndT:(T:Ty)→Den T→Prop
 | .sl t,l=>l.length≤140737488355328∧∀ x,x∈l→bndT t x
 | .pr a b,v=>bndT a v.1∧bndT b v.2
 | _,_=>True
section
variable {P:Program} {H:Type} {en:TypeId×Value→H} {w:World} {base:Nat} {spare:Nat→Bool} {held:Bool} {M:Nat→Prop} {X:Ctx}
theorem al2_len {α β:Type} {R:α→β→Prop} {l:List α} {m:List β} (h:All2 R l m):l.length=m.length:=by
 induction h with
 | nil=>rfl
 | cons _ _ ih=>simp [ih]
theorem al2_get {α β:Type} {R:α→β→Prop} {l:List α} {m:List β} (h:All2 R l m):∀ (j:Nat) (p:α) (u:β),l[j]? = some p→m[j]? = some u→R p u:=by
 induction h with
 | nil=>intro j p u h;simp at h
 | cons h _ ih =>
  intro j p u h1 h2;cases j with
  | zero=>simp at h1 h2;subst h1 h2;exact h
  | succ j=>exact ih j p u (by simpa using h1) (by simpa using h2)
abbrev Rd (w:World) (M:Nat→Prop) (X:Ctx) (T:Ty) (x:Den T) (cs:List Value):Prop:=All2 (fun p u=>RC w M X p u []) ((enc T x).map PV.sh) cs
open Go.RowKit in
theorem walk_ofT {P:Program} {T:Ty} (ha:T.agg=true) (E:Ent P ⟨[.v T],[.bool],false⟩) (hc:∀ x:Den T,bndT T x→E.f x=some true) (w:World) (xs:List Value)
  (hr:∀ (M:Nat→Prop) (X:Ctx),(∀ g,¬ M g)→∃ x:Den T,bndT T x∧Rd w M X T x xs):Calls P E.id #[.agg xs.toArray] w fun e w'=>e=.returned (.bool true)∧Below w.heap.size w w':=by
 let τ:Nat→Value:=fun _=>.bool true
 let M:Nat→Prop:=fun g=>False∨g∈([]:List (List Nat)).flatten++([]:List (List Nat)).flatten
 obtain ⟨x,hb,hx⟩:=hr M (X0 τ M) (fun g hg=>by simp [M] at hg);have hcon0:=E.ok x true trivial (hc x hb);have hcon1:Con P E.id [.v (mkR1 T ((enc T x).map PV.sh))] [.one (.b true)]:=hcon0;have hm:mkR1 T ((enc T x).map PV.sh)=.agg ((enc T x).map PV.sh):=by cases T<;>first|rfl|cases ha
 rw [hm] at hcon1;obtain ⟨_,hcon⟩:=hcon1;have harg:ArgsR w M τ [.v (.agg ((enc T x).map PV.sh))] [.agg xs.toArray] [] [] []:=by
  refine .v ⟨xs,rfl,RCs.of_nofp (al2_len hx) fun j p u hp hu=>al2_get hx j p u hp hu⟩ ?_ .nil;intro p hp;exact enc_sh_nr T x p hp
 refine Calls.mono (hcon w τ (fun _=>False) _ [] [] [] harg (by simp) (by simp) (by simp) (by simp)) fun e w' hq => ?_
 obtain ⟨u,rfl,hk,us,rf,fw,hu,hres,_⟩:=hq;cases hres with
 | cons h1 hn t =>
  cases t with
  | nil =>
   refine ⟨?_,kept_below hk⟩;have:RC w' _ _ (.b true) _ _:=h1;have hv:=this.b_inv;rw [hu,hv];rfl
end
def Ent.as {P:Program} {s:Sig} (E:Ent P s) (f:DenMs P s.ms→Option (DenOs s.outs)) (h:∀ x,E.f x=f x):Ent P s:=⟨E.id,f,fun x y hs hf=>E.ok x y hs ((h x).trans hf)⟩
end Go.Proofs.YteecakkojdhmaaaGreatA.AS
