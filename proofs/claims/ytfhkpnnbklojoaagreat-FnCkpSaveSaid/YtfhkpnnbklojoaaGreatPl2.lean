/- A part of the proof that FnCkpSave holds: the law about the plain functions. -/
import Derived.Test.YtfhkpnnbklojoaaGreatPl1
set_option linter.unusedVariables false
set_option linter.unusedSimpArgs false
namespace Go.Proofs.YtfhkpnnbklojoaaGreatA.AS
theorem l21Story_t {r:l20Rd} {B:Int} {f:FloFlow} (a:Int) (h:Ok B r) (hB:B≤80000) (hf:FD f):Tot (fun v=>Ok (B+6) v.2) (s_l21Story (r,f,a)):=by
 have hs:=hf.s
 have ht:=hf.t
 have ok6:=h.mono (C:=B+6) (by omega)
 simp only [s_l21Story]
 refine Tot.bd (P:=fun v=>match v with|.inl x=>Ok (B+6) x.1|.inr x=>x.1=r∧x.2.1=f) ?_ fun v8 h8 => ?_
 ·refine Tot.cnd (fun _=>Tot.sm ok6) (fun _=>Tot.cnd (fun _ => ?_) (fun _=>Tot.cnd (fun _ => ?_) (fun _=>Tot.cnd (fun _=>Tot.sm ok6) (fun _ => ?_))))
  ·exact Tot.bd (pickP _ h (by omega) (by omega)) fun v h=>Tot.sm (h.2.2.mono (by omega))
  ·refine Tot.bd (pickP 3 h (by omega) (by omega)) fun v h => ?_
   exact Tot.bd (Tot.ixT h.1 (by simpa using h.2.1)) fun w _=>Tot.sm (h.2.2.mono (by omega))
  ·refine Tot.bd (P:=fun v=>v.1=r∧v.2.1=f) (Tot.cnd (fun _=>Tot.sm ⟨rfl,rfl⟩) (fun _=>Tot.sm ⟨rfl,rfl⟩)) fun v2 h2 => ?_
   obtain ⟨a2,f2,c2⟩:=v2
   obtain ⟨e1,e2⟩:=h2
   simp only at e1 e2
   subst e1 e2
   refine Tot.cnd (fun _=>Tot.sm ok6) (fun _ => ?_)
   refine Tot.bd (P:=fun v=>v.1=a2∧v.2.1=f2) (Tot.cnd (fun _=>Tot.sm ⟨rfl,rfl⟩) (fun _=>Tot.sm ⟨rfl,rfl⟩)) fun v3 h3 => ?_
   obtain ⟨a3,f3,c3⟩:=v3
   obtain ⟨e1,e2⟩:=h3
   simp only at e1 e2
   subst e1 e2
   refine Tot.cnd (fun _ => ?_) (fun _ => ?_)
   ·refine Tot.bd (pickP 3 h (by omega) (by omega)) fun v h => ?_
    refine Tot.bd (Tot.ixT h.1 (by simpa using h.2.1)) fun w _ => ?_
    exact Tot.bd (pickP _ h.2.2 (by omega) (show (1:Int)≤(f3.2.2.2.1.length:Int) by omega)) fun v h=>Tot.sm (h.2.2.mono (by omega))
   ·refine Tot.bd (P:=fun v=>v.1=a3∧v.2.1=f3) (Tot.cnd (fun _=>Tot.sm ⟨rfl,rfl⟩) (fun _=>Tot.sm ⟨rfl,rfl⟩)) fun v4 h4 => ?_
    obtain ⟨a4,f4,c4⟩:=v4
    obtain ⟨e1,e2⟩:=h4
    simp only at e1 e2
    subst e1 e2
    refine Tot.cnd (fun _ => ?_) (fun _=>Tot.sm ⟨rfl,rfl⟩)
    exact Tot.bd (pickP _ h (by omega) (show (1:Int)≤(f4.2.2.2.1.length:Int) by omega)) fun v h=>Tot.sm (h.2.2.mono (by omega))
 ·cases v8 with
  | inl x=>exact Tot.sm h8
  | inr x =>
   obtain ⟨a6,f6,c6⟩:=x
   obtain ⟨e1,e2⟩:=h8
   simp only at e1 e2
   subst e1 e2
   exact Tot.bd (l21Lively_t h (by omega) hf) fun v h=>Tot.sm h
theorem l21Given_t {r:l20Rd} {B:Int} {f:FloFlow} (a:Int) (h:Ok B r) (hB:B≤80000) (hf:FD f):Tot (fun v=>Ok (B+6) v.2) (s_l21Given (r,f,a)):=by
 have hs:=hf.s
 have ht:=hf.t
 have ok6:=h.mono (C:=B+6) (by omega)
 simp only [s_l21Given]
 refine Tot.bd (P:=fun v=>match v with|.inl x=>x.1=r|.inr x=>x.1=r∧x.2.1=f) ?_ fun v8 h8 => ?_
 ·refine Tot.iter (fun s:l20Rd×FloFlow×(Int×Int×Int)×Int=>s.1=r∧s.2.1=f∧0≤s.2.2.2∧s.2.2.2≤f.2.2.2.1.length) (fun s=>((f.2.2.2.1.length:Int)-s.2.2.2).toNat) (fun s hs' => ?_) ⟨rfl,rfl,by simp,by simp⟩
  obtain ⟨rd,f',z,i⟩:=s
  obtain ⟨e1,e2,i0,i1⟩:=hs'
  simp only at e1 e2 i0 i1
  subst e1 e2
  refine Tot.bd (P:=fun v=>v.1=rd∧v.2.1=f'∧(v.2.2.2=true→i<f'.2.2.2.1.length)) (Tot.cnd (fun hc=>Tot.sm ⟨rfl,rfl,fun _=>by simpa using hc⟩) (fun _=>Tot.sm ⟨rfl,rfl,by simp⟩)) fun v2 h2 => ?_
  obtain ⟨a2,f2,z2,c2⟩:=v2
  obtain ⟨e1,e2,e3⟩:=h2
  simp only at e1 e2 e3
  subst e1 e2
  refine Tot.cnd (fun hc => ?_) (fun _=>Tot.sm ⟨rfl,rfl⟩)
  have hil:=e3 hc
  refine Tot.bd (P:=fun v=>match v with|.inl x=>x.1=a2|.inr x=>x.1=a2∧x.2.1=f2) ?_ fun v9 h9 => ?_
  ·refine Tot.iter (fun s:l20Rd×FloFlow×(Int×Int×Int)×Int=>s.1=a2∧s.2.1=f2∧0≤s.2.2.2∧s.2.2.2≤f2.2.2.1.length) (fun s=>((f2.2.2.1.length:Int)-s.2.2.2).toNat) (fun s hs' => ?_) ⟨rfl,rfl,by simp,by simp⟩
   obtain ⟨rd3,f3,z3,k⟩:=s
   obtain ⟨e1,e2,k0,k1⟩:=hs'
   simp only at e1 e2 k0 k1
   subst e1 e2
   refine Tot.cnd (fun hc => ?_) (fun _=>Tot.sm ⟨rfl,rfl⟩)
   have hk:k<f3.2.2.1.length:=by simpa using hc
   refine Tot.bd (P:=fun v=>v.1=rd3∧v.2.1=f3) ?_ fun v8 h8 => ?_
   ·refine Tot.bd (Tot.ixT i0 hil) fun v4 h4 => ?_
    have h5:=hf.i v4 h4
    refine Tot.bd (Tot.ixT k0 (show k<(v4.1.length:Int) by omega)) fun v5 _ => ?_
    refine Tot.cnd (fun _ => ?_) (fun _=>Tot.sm ⟨rfl,rfl⟩)
    refine Tot.bd (Tot.ixT i0 hil) fun v6 h6 => ?_
    have h7:=hf.i v6 h6
    exact Tot.bd (Tot.ixT k0 (show k<(v6.1.length:Int) by omega)) fun v5 _=>Tot.sm ⟨rfl,rfl⟩
   ·obtain ⟨a8,f8,z8,c8⟩:=v8
    obtain ⟨e1,e2⟩:=h8
    simp only at e1 e2
    subst e1 e2
    refine Tot.cnd (fun _=>Tot.sm rfl) (fun _=>Tot.sm ?_)
    have w1:w6 (k+1)=k+1:=w6_id (by omega) (by omega)
    simp only [w1]
    refine ⟨⟨rfl,rfl,by simp only;omega,by simp only;omega⟩,?_⟩
    show ((f8.2.2.1.length:Int)-(k+1)).toNat<((f8.2.2.1.length:Int)-k).toNat
    omega
  ·cases v9 with
   | inl x=>exact Tot.sm h9
   | inr x =>
    obtain ⟨a6,f6,z6⟩:=x
    obtain ⟨e1,e2⟩:=h9
    simp only at e1 e2
    subst e1 e2
    refine Tot.sm ?_
    have w1:w6 (i+1)=i+1:=w6_id (by omega) (by omega)
    simp only [w1]
    refine ⟨⟨rfl,rfl,by simp only;omega,by simp only;omega⟩,?_⟩
    show ((f6.2.2.2.1.length:Int)-(i+1)).toNat<((f6.2.2.2.1.length:Int)-i).toNat
    omega
 ·cases v8 with
  | inl x =>
   obtain ⟨a6,x6⟩:=x
   simp only at h8
   subst h8
   exact Tot.sm ok6
  | inr x =>
   obtain ⟨a6,f6,z6⟩:=x
   obtain ⟨e1,e2⟩:=h8
   simp only at e1 e2
   subst e1 e2
   simp only [cs_r]
   refine Tot.bd (P:=fun v=>match v with|.inl x=>x.1=a6|.inr x=>x.1=a6∧x.2.1=f6) ?_ fun v9 h9 => ?_
   ·refine Tot.iter (fun s:l20Rd×FloFlow×(Int×Int×Int)×Int=>s.1=a6∧s.2.1=f6∧0≤s.2.2.2∧s.2.2.2≤f6.2.2.1.length) (fun s=>((f6.2.2.1.length:Int)-s.2.2.2).toNat) (fun s hs' => ?_) ⟨rfl,rfl,by simp,by simp⟩
    obtain ⟨rd,f',z,i⟩:=s
    obtain ⟨e1,e2,i0,i1⟩:=hs'
    simp only at e1 e2 i0 i1
    subst e1 e2
    refine Tot.bd (P:=fun v=>v.1=rd∧v.2.1=f'∧(v.2.2.2=true→i<f'.2.2.1.length)) (Tot.cnd (fun hc=>Tot.sm ⟨rfl,rfl,fun _=>by simpa using hc⟩) (fun _=>Tot.sm ⟨rfl,rfl,by simp⟩)) fun v2 h2 => ?_
    obtain ⟨a2,f2,z2,c2⟩:=v2
    obtain ⟨e1,e2,e3⟩:=h2
    simp only at e1 e2 e3
    subst e1 e2
    refine Tot.cnd (fun hc => ?_) (fun _=>Tot.sm ⟨rfl,rfl⟩)
    have hil:=e3 hc
    refine Tot.bd (Tot.ixT i0 hil) fun v4 h4 => ?_
    refine Tot.cnd (fun _=>Tot.sm rfl) (fun _=>Tot.sm ?_)
    have w1:w6 (i+1)=i+1:=w6_id (by omega) (by omega)
    simp only [w1]
    refine ⟨⟨rfl,rfl,by simp only;omega,by simp only;omega⟩,?_⟩
    show ((f2.2.2.1.length:Int)-(i+1)).toNat<((f2.2.2.1.length:Int)-i).toNat
    omega
   ·cases v9 with
    | inl x =>
     obtain ⟨a7,x7⟩:=x
     simp only at h9
     subst h9
     exact Tot.sm ok6
    | inr x =>
     obtain ⟨a7,f7,z7⟩:=x
     obtain ⟨e1,e2⟩:=h9
     simp only at e1 e2
     subst e1 e2
     simp only [cs_r]
     refine Tot.cnd (fun _=>Tot.sm ok6) (fun _=>Tot.gd (by decide) (Tot.cnd (fun _ => ?_) (fun _=>Tot.sm ok6)))
     exact Tot.bd (pickP _ h (by omega) (by omega)) fun v h=>Tot.sm (h.2.2.mono (by omega))
theorem FI.fd {k:Int} {f:FloFlow} (h:FI k f):FD f:=h.ok.fd
theorem FI.sn {k:Int} {f:FloFlow} (h:FI k f):snSm (cSnaps (fC f)):=smC_sn h.ok.ckp.sm
def fRuns (f:FloFlow) (l:List EvEvent):FloFlow:=l.foldl fStep f
theorem fRuns_FI {k:Int}:∀ (l:List EvEvent) (f:FloFlow),FI k f→k+l.length≤490→FI (k+l.length) (fRuns f l)∧(fRuns f l).1=f.1∧(fRuns f l).2.1=f.2.1:=by
 intro l
 induction l generalizing k with
 | nil=>intro f h _;exact ⟨h.mono (by simp),rfl,rfl⟩
 | cons e l ih =>
  intro f h hk
  simp only [List.length_cons] at hk
  obtain ⟨h1,h2,h3⟩:=fStep_ok h (by omega) e
  obtain ⟨i1,i2,i3⟩:=ih (fStep f e) h1 (by omega)
  refine ⟨?_,i2.trans h2,i3.trans h3⟩
  have e2:k+1+(l.length:Int)=k+((e::l).length:Int):=by simp only [List.length_cons];omega
  rw [← e2];exact i1
theorem l21Plays_t {r:l20Rd} {B k:Int} {f:FloFlow} (n:Int) (h:Ok B r) (hB:B≤40000) (hf:FI k f) (hn:n≤200) (hk:k+n≤400) (hk0:k≤400) :
  Tot (fun v=>Ok (B+2+20*200) v.2.2∧(v.1.length:Int)≤(if 0≤n then n else 0)∧v.2.1=fRuns f v.1) (s_l21Plays (r,f,n)):=by
 simp only [s_l21Plays]
 refine Tot.bd (pickP 4 h (by omega) (by omega)) fun v1 h1 => ?_
 refine Tot.bd (P:=fun v=>Ok (B+2+20*200) v.1∧(v.2.2.2.length:Int)≤(if 0≤n then n else 0)∧v.2.1=fRuns f v.2.2.2) ?_ fun v h=>Tot.sm h
 refine Tot.iter (fun s:l20Rd×FloFlow×FloFlow×List EvEvent×Int×Int=>s.2.1=fRuns f s.2.2.2.1∧(0≤s.2.2.2.2.2∧(s.2.2.2.1.length:Int)=s.2.2.2.2.2∧s.2.2.2.2.2≤(if 0≤n then n else 0))∧Ok (B+1+20*s.2.2.2.2.2) s.1∧(0≤s.2.2.2.2.1∧s.2.2.2.2.1≤22)) (fun s=>(n-s.2.2.2.2.2).toNat) (fun s hs' => ?_) ⟨rfl,⟨by simp,by simp,by simp only;split<;>omega⟩,h1.2.2.mono (by simp),by simp,by simp⟩
 obtain ⟨rd,g,z,out,st,i⟩:=s
 obtain ⟨hg,⟨i0,il,i1⟩,ho,⟨t0,t1⟩⟩:=hs'
 simp only at hg i0 il i1 ho t0 t1
 refine Tot.bd (P:=fun v=>v.1=rd∧v.2.1=g∧v.2.2.2.1=out∧(v.2.2.2.2=true→i<n)) (Tot.cnd (fun hc=>Tot.sm ⟨rfl,rfl,rfl,fun _=>by simpa using hc⟩) (fun _=>Tot.sm ⟨rfl,rfl,rfl,by simp⟩)) fun v3 h3 => ?_
 obtain ⟨rd3,g3,z3,out3,c3⟩:=v3
 obtain ⟨e1,e2,e3,e4⟩:=h3
 simp only at e1 e2 e3 e4
 subst e1 e2 e3
 refine Tot.cnd (fun hc => ?_) (fun _=>Tot.sm ⟨ho.mono (by split at i1<;>omega),by simp only;omega,hg⟩)
 have hin:=e4 hc
 have hFI:FI (k+out3.length) g3:=by
  rw [hg];exact (fRuns_FI out3 f hf (by omega)).1
 have hfd:=hFI.fd
 have hi200:i<200:=by omega
 simp only
 refine Tot.bd (l21Event_t ho (by omega) hfd) fun v4 h4 => ?_
 refine Tot.bd (P:=fun v=>Ok (B+1+20*i+20) v.1∧v.2.1=g3∧v.2.2.2.1=out3∧(0≤v.2.2.2.2.2∧v.2.2.2.2.2≤22)) ?_ fun v15 h15 => ?_
 ·refine Tot.cnd (fun hst => ?_) (fun _ => ?_)
  ·have hst:st<22:=by simpa using hst
   have w1:w6 (st+1)=st+1:=w6_id (by omega) (by omega)
   simp only [w1]
   exact Tot.bd (l21Story_t st h4 (by omega) hfd) fun v5 h5=>Tot.sm ⟨h5.mono (by omega),rfl,rfl,by simp only;omega,by simp only;omega⟩
  ·refine Tot.bd (P:=fun v=>Ok (B+1+20*i+4) v.1∧v.2.1=g3∧v.2.2.2.1=out3) ?_ fun v7 h7 => ?_
   ·refine Tot.cnd (fun _ => ?_) (fun _=>Tot.sm ⟨h4.mono (by omega),rfl,rfl⟩)
    exact Tot.bd (pickP 16 h4 (by omega) (by omega)) fun v h=>Tot.sm ⟨h.2.2.mono (by omega),rfl,rfl⟩
   ·obtain ⟨rd7,g7,z7,out7,e7,c7⟩:=v7
    obtain ⟨o7,a1,a2⟩:=h7
    simp only at o7 a1 a2
    subst a1 a2
    refine Tot.cnd (fun _ => ?_) (fun _ => ?_)
    ·exact Tot.bd (l21Story_t 0 o7 (by omega) hfd) fun v5 h5=>Tot.sm ⟨h5.mono (by omega),rfl,rfl,by simp,by simp⟩
    ·refine Tot.bd (P:=fun v=>Ok (B+1+20*i+5) v.1∧v.2.1=g7∧v.2.2.2.1=out7) ?_ fun v10 h10 => ?_
     ·refine Tot.cnd (fun _=>Tot.cnd (fun _ => ?_) (fun _=>Tot.sm ⟨o7.mono (by omega),rfl,rfl⟩)) (fun _=>Tot.sm ⟨o7.mono (by omega),rfl,rfl⟩)
      exact Tot.bd (pickP 20 o7 (by omega) (by omega)) fun v h=>Tot.sm ⟨h.2.2.mono (by omega),rfl,rfl⟩
     ·obtain ⟨rd10,g10,z10,out10,e10,c10⟩:=v10
      obtain ⟨o10,a1,a2⟩:=h10
      simp only at o10 a1 a2
      subst a1 a2
      refine Tot.cnd (fun _ => ?_) (fun _ => ?_)
      ·exact Tot.bd (l21Given_t i o10 (by omega) hfd) fun v5 h5=>Tot.sm ⟨h5.mono (by omega),rfl,rfl,by simp only;omega,by simp only;omega⟩
      ·refine Tot.bd (P:=fun v=>Ok (B+1+20*i+6) v.1∧v.2.1=g10∧v.2.2.2.1=out10) ?_ fun v13 h13 => ?_
       ·refine Tot.cnd (fun _ => ?_) (fun _=>Tot.sm ⟨o10.mono (by omega),rfl,rfl⟩)
        exact Tot.bd (pickP 5 o10 (by omega) (by omega)) fun v h=>Tot.sm ⟨h.2.2.mono (by omega),rfl,rfl⟩
       ·obtain ⟨rd13,g13,z13,out13,e13,c13⟩:=v13
        obtain ⟨o13,a1,a2⟩:=h13
        simp only at o13 a1 a2
        subst a1 a2
        refine Tot.cnd (fun _ => ?_) (fun _=>Tot.sm ⟨o13.mono (by omega),rfl,rfl,by simp only;omega,by simp only;omega⟩)
        exact Tot.bd (l21Lively_t o13 (by omega) hfd) fun v5 h5=>Tot.sm ⟨h5.mono (by omega),rfl,rfl,by simp only;omega,by simp only;omega⟩
 ·obtain ⟨rd15,g15,z15,out15,e15,st15⟩:=v15
  obtain ⟨o15,a1,a2,⟨b0,b1⟩⟩:=h15
  simp only at o15 a1 a2 b0 b1
  subst a1 a2
  refine Tot.gd (show (out15.length+[e15].length)*24≤140737488355328 by simp only [List.length_singleton];split at i1<;>omega) ?_
  have hst:=s_FloStep_ve g15 e15 hFI.sn
  simp only [hst,bd_s]
  refine Tot.sm ?_
  have w1:w6 (i+1)=i+1:=w6_id (by omega) (by omega)
  simp only [w1]
  refine ⟨⟨?_,⟨by simp only;omega,by simp only [List.length_append,List.length_singleton];omega,by simp only;split<;>omega⟩,o15.mono (by simp only;omega),b0,b1⟩,?_⟩
  ·simp only [fRuns,List.foldl_append,List.foldl_cons,List.foldl_nil]
   rw [hg];rfl
  ·show (n-(i+1)).toNat<(n-i).toNat
   omega
theorem l21Begin_t {r:l20Rd} {B:Int} (h:Ok B r) (hB:B≤40000):Tot (fun v=>FI 0 v.1∧(∃ j a,v.1=floNew j a∧jobOk j=true∧(a.length:Int)=j.1∧∀ l,l∈a→logOk l=true)∧Ok (B+1100) v.2) (s_l21Begin r):=by
 simp only [s_l21Begin]
 refine Tot.bd (l20Job_t h (by omega)) fun v1 h1 => ?_
 have hS:=job_S h1.1
 refine Tot.bd (l21Logs_t v1.1 h1.2 (by omega) (by omega) (by omega)) fun v2 h2 => ?_
 have hl:∀ l,l∈v2.1→logOk l=true:=fun l hl=>(h2.1.2 l hl).1
 have e1:s_FloNew_v (v1.1,v2.1)=some (floNew v1.1 v2.1):=s_FloNew_e ..
 simp only [e1,bd_s]
 have hb:((v2.1.length:Int)==v1.1.1)=true:=by simpa using h2.1.1
 have ha:(v2.1.any fun l => !logOk l)=false:=by
  rw [List.any_eq_false];intro l hl';simp [hl l hl']
 have e2:floNew v1.1 v2.1=flo0 v1.1 v2.1 v1.1.1.toNat v1.1.2.1.toNat:=by
  simp only [floNew,h1.1,hb,ha,Bool.not_false,Bool.and_self,if_true]
 refine Tot.sm ⟨?_,⟨_,_,rfl,h1.1,h2.1.1,hl⟩,h2.2.mono (by omega)⟩
 rw [e2]
 exact flo0_FI h1.1 h2.1.1 hl
theorem l21Flow_t {r:l20Rd} {B:Int} (h:Ok B r) (hB:B≤20000):Tot (fun v=>FI 70 v.1∧(∃ j a l,v.1=fRuns (floNew j a) l∧jobOk j=true∧(a.length:Int)=j.1∧(∀ l,l∈a→logOk l=true)∧l.length≤70)∧Ok (B+6000) v.2) (s_l21Flow r):=by
 simp only [s_l21Flow]
 refine Tot.bd (l21Begin_t h (by omega)) fun v1 h1 => ?_
 obtain ⟨h1,⟨j,a,e,hj,ha,hl⟩,ho⟩:=h1
 refine Tot.bd (pickP 70 ho (by omega) (by omega)) fun v2 h2 => ?_
 refine Tot.bd (pickP 5 h2.2.2 (by omega) (by omega)) fun v3 h3 => ?_
 refine Tot.bd (Tot.ixT h3.1 (by simpa using h3.2.1)) fun v4 h4 => ?_
 have b4:0≤v4∧v4≤70:=by simp only [List.mem_cons,List.not_mem_nil,or_false] at h4;omega
 clear h4
 refine Tot.bd (l21Plays_t v4 h3.2.2 (by omega) h1 (by omega) (by omega) (by omega)) fun v5 h5 => ?_
 obtain ⟨h5,h6,h7⟩:=h5
 have hlen:(v5.1.length:Int)≤70:=by split at h6<;>omega
 refine Tot.sm ⟨?_,⟨j,a,v5.1,by rw [h7,e],hj,ha,hl,by omega⟩,h5.mono (by omega)⟩
 rw [h7]
 exact (fRuns_FI v5.1 _ h1 (by omega)).1.mono (by omega)
theorem l20Win_t {r:l20Rd} {B:Int} (a:Int) (ha:1≤a) (h:Ok B r) (hB:B≤80000):Tot (fun v=>Ok (B+9) v.2) (s_l20Win (r,a)):=by
 simp only [s_l20Win]
 refine Tot.bd (pickP 40 h (by omega) (by omega)) fun v1 h1 => ?_
 refine Tot.bd (pickP 5 h1.2.2 (by omega) (by omega)) fun v2 h2 => ?_
 refine Tot.bd (Tot.ixT h2.1 (by simpa using h2.2.1)) fun v3 _ => ?_
 refine Tot.bd (pickP 4 h2.2.2 (by omega) (by omega)) fun v4 h4 => ?_
 refine Tot.bd (Tot.ixT h4.1 (by simpa using h4.2.1)) fun v5 _ => ?_
 refine Tot.bd (pickP a h4.2.2 (by omega) ha) fun v6 h6 => ?_
 refine Tot.bd (P:=fun v=>Ok (B+9) v.1) ?_ fun v h=>Tot.sm h
 refine Tot.cnd (fun _ => ?_) (fun _=>Tot.sm (h6.2.2.mono (by omega)))
 refine Tot.bd (pickP 2 h6.2.2 (by omega) (by omega)) fun v7 h7 => ?_
 refine Tot.cnd (fun _ => ?_) (fun _ => ?_)
 ·refine Tot.bd (pickP 3 h7.2.2 (by omega) (by omega)) fun v8 h8 => ?_
  exact Tot.bd (Tot.ixT h8.1 (by simpa using h8.2.1)) fun v9 _=>Tot.sm (h8.2.2.mono (by omega))
 ·refine Tot.bd (pickP 4 h7.2.2 (by omega) (by omega)) fun v8 h8 => ?_
  exact Tot.bd (Tot.ixT h8.1 (by simpa using h8.2.1)) fun v9 _=>Tot.sm (h8.2.2.mono (by omega))
theorem l20Agg_t {r:l20Rd} {B:Int} (a:Int) (ha:1≤a) (h:Ok B r) (hB:B≤80000):Tot (fun v=>Ok (B+12) v.2) (s_l20Agg (r,a)):=by
 simp only [s_l20Agg]
 refine Tot.bd (pickP 6 h (by omega) (by omega)) fun v1 h1 => ?_
 refine Tot.bd (P:=fun v=>Ok (B+7) v.1) ?_ fun v5 h5 => ?_
 ·refine Tot.iter (fun s:l20Rd×AggAgg×AggAgg×Int=>Ok (B+7-s.2.2.2) s.1∧(0≤s.2.2.2∧s.2.2.2≤5)) (fun s=>s.2.2.2.toNat) (fun s hs' => ?_) ⟨h1.2.2.mono (by simp only;omega),by simp only;omega,by simp only;omega⟩
  obtain ⟨rd,z,g,i⟩:=s
  obtain ⟨ho,i0,i1⟩:=hs'
  simp only at ho i0 i1
  refine Tot.cnd (fun hc => ?_) (fun hc=>Tot.sm (ho.mono (by omega)))
  have hc:i>0:=by simpa using hc
  refine Tot.bd (pickP 19 ho (by omega) (by omega)) fun v3 h3 => ?_
  simp only [s_AggAdd_e,bd_s]
  have w1:w6 (i-1)=i-1:=w6_id (by omega) (by omega)
  simp only [w1]
  refine Tot.sm ⟨⟨h3.2.2.mono (by simp only;omega),by simp only;omega,by simp only;omega⟩,?_⟩
  show (i-1).toNat<i.toNat
  omega
 ·refine Tot.bd (pickP a h5 (by omega) ha) fun v6 h6 => ?_
  refine Tot.cnd (fun _=>Tot.sm (h6.2.2.mono (by omega))) (fun _ => ?_)
  refine Tot.bd (pickP 6 h6.2.2 (by omega) (by omega)) fun v7 h7 => ?_
  refine Tot.bd (Tot.ixT h7.1 (by simpa using h7.2.1)) fun v8 _ => ?_
  refine Tot.bd (pickP 4 h7.2.2 (by omega) (by omega)) fun v9 h9 => ?_
  have ho:=h9.2.2.mono (C:=B+12) (by omega)
  refine Tot.bd (P:=fun v=>Ok (B+12) v.1) ?_ fun v h=>Tot.sm h
  exact Tot.cnd (fun _=>Tot.sm ho) (fun _=>Tot.cnd (fun _=>Tot.sm ho) (fun _=>Tot.cnd (fun _=>Tot.sm ho) (fun _=>Tot.sm ho)))
theorem upd_len {α:Type} (l:List α) (n:Nat) (x:α) (h:n<l.length):(l.take n++x::l.drop (n+1)).length=l.length:=by
 rw [upd_set _ h,List.length_set]
theorem l21BadOp_t {r:l20Rd} {B:Int} (s:OpState) (hs:s.2.length≤10000) (h:Ok B r) (hB:B≤70000):Tot (fun v=>v.1.2.length≤s.2.length+1∧Ok (B+20) v.2) (s_l21BadOp (r,s)):=by
 simp only [s_l21BadOp,s_l7Copy_e s (by omega),bd_s]
 refine Tot.bd (P:=fun v=>Ok (B+1) v.1∧v.2.1=s∧(v.2.2.2=false→0<s.2.length)) ?_ fun v3 h3 => ?_
 ·refine Tot.cnd (fun _=>Tot.sm ⟨h.mono (by omega),rfl,by simp⟩) (fun hc => ?_)
  have hc:s.2≠[]:=by simpa using hc
  exact Tot.bd (pickP 4 h (by omega) (by omega)) fun v2 h2=>Tot.sm ⟨h2.2.2,rfl,fun _=>List.length_pos_iff.2 hc⟩
 ·obtain ⟨rd,s3,z3,c3⟩:=v3
  obtain ⟨ho,e,hne⟩:=h3
  simp only at ho e hne
  subst e
  refine Tot.cnd (fun _ => ?_) (fun hc => ?_)
  ·refine Tot.bd (pickP 4 ho (by omega) (by omega)) fun v4 h4 => ?_
   exact Tot.bd (Tot.ixT h4.1 (by simpa using h4.2.1)) fun v5 _=>Tot.sm ⟨by simp,h4.2.2.mono (by omega)⟩
  ·have hpos:=hne hc
   refine Tot.bd (pickP _ ho (by omega) (show (1:Int)≤(s3.2.length:Int) by omega)) fun v6 h6 => ?_
   refine Tot.bd (pickP 7 h6.2.2 (by omega) (by omega)) fun v7 h7 => ?_
   have hix:Tot (fun _=>True) (ix s3.2 v6.1):=(Tot.ixT h6.1 h6.2.1).mono fun _ _=>trivial
   have h62:v6.1<(s3.2.length:Int):=h6.2.1
   have hn:v6.1.toNat<s3.2.length:=by omega
   have hul:∀ x,(s3.2.take v6.1.toNat++x::s3.2.drop (v6.1.toNat+1)).length≤s3.2.length+1:=fun x=>by rw [upd_len _ _ _ hn];omega
   refine Tot.bd (P:=fun v=>v.2.1.2.length≤s3.2.length+1∧Ok (B+20) v.1) ?_ fun v h=>Tot.sm h
   refine Tot.cnd (fun _ => ?_) (fun _=>Tot.cnd (fun _ => ?_) (fun _=>Tot.cnd (fun _ => ?_) (fun _=>Tot.cnd (fun _ => ?_) (fun _=>Tot.cnd (fun _ => ?_) (fun _=>Tot.cnd (fun _ => ?_) (fun _ => ?_))))))
   ·refine Tot.bd (pickP 2 h7.2.2 (by omega) (by omega)) fun v8 h8 => ?_
    refine Tot.bd (Tot.ixT h8.1 (by simpa using h8.2.1)) fun v9 _ => ?_
    exact Tot.bd hix fun v10 _=>Tot.sm ⟨hul _,h8.2.2.mono (by omega)⟩
   ·refine Tot.bd (l20Win_t 2 (by omega) h7.2.2 (by omega)) fun v8 h8 => ?_
    exact Tot.bd hix fun v10 _=>Tot.sm ⟨hul _,h8.mono (by omega)⟩
   ·refine Tot.bd (l20Agg_t 2 (by omega) h7.2.2 (by omega)) fun v8 h8 => ?_
    exact Tot.bd hix fun v10 _=>Tot.sm ⟨hul _,h8.mono (by omega)⟩
   ·refine Tot.bd (l20Agg_t 2 (by omega) h7.2.2 (by omega)) fun v8 h8 => ?_
    exact Tot.bd hix fun v10 _=>Tot.sm ⟨hul _,h8.mono (by omega)⟩
   ·refine Tot.bd (pickP 4 h7.2.2 (by omega) (by omega)) fun v8 h8 => ?_
    refine Tot.bd (Tot.ixT h8.1 (by simpa using h8.2.1)) fun v9 _ => ?_
    exact Tot.bd hix fun v10 _=>Tot.sm ⟨hul _,h8.2.2.mono (by omega)⟩
   ·exact Tot.bd hix fun v10 _=>Tot.gd trivial (Tot.sm ⟨hul _,h7.2.2.mono (by omega)⟩)
   ·exact Tot.bd hix fun v10 _=>Tot.gd (show (s3.2.length+[v10].length)*104≤140737488355328 by simp only [List.length_singleton];omega) (Tot.sm ⟨by simp,h7.2.2.mono (by omega)⟩)
structure CD (f:FloFlow) (c:CkpState):Prop where
 s:c.2.2.1.length=f.2.2.1.length
 t:c.2.2.2.1.length=f.2.2.2.1.length
 p:c.2.2.2.2.1.length=f.2.2.2.1.length
 pp:∀ s,s∈c.2.2.2.2.1→s.1.2.length≤2000∧s.2.length≤2000
 a:c.2.2.2.2.2.2.1.length=f.2.2.1.length
 z:c.2.2.2.2.2.2.2.length=f.2.2.2.1.length
 zz:∀ s,s∈c.2.2.2.2.2.2.2→s.1.2.length≤2000∧s.2.length≤2000
theorem FI.cd {k:Int} {f:FloFlow} (h:FI k f):CD f (fC f):=by
 have hc:=h.ok.ckp
 have hS:=job_S hc.job
 have e1:=hc.srcl
 have e2:=hc.tskl
 have e3:=hc.snpl
 have e4:=hc.atl
 have e5:=hc.ssl
 have e6:((f.2.2.1.length:Nat):Int)=(fJ f).1:=h.ok.sl
 have e7:((f.2.2.2.1.length:Nat):Int)=(fJ f).2.1:=h.ok.tl
 refine ⟨by omega,by omega,by omega,?_,by omega,by omega,?_⟩
 ·intro s hs
  obtain ⟨i,hi,rfl⟩:=List.mem_iff_getElem.1 hs
  have:=pTsnap_sm hc.job (hc.snp i (by omega) hi)
  omega
 ·intro s hs
  have:=pSnap_sm (hc.ss s hs)
  omega
theorem CD.sm {f:FloFlow} {c:CkpState} (h:CD f c) (hf:FD f):smC c:=by
 have h1:=h.s
 have h2:=h.t
 have h3:=h.p
 have h4:=h.a
 have h5:=h.z
 have:=hf.s
 have:=hf.t
 exact ⟨by omega,by omega,by omega,fun s hs=>by have:=h.pp s hs;omega,by omega,by omega,fun s hs=>by have:=h.zz s hs;omega⟩
theorem l21Ckp_t {r:l20Rd} {B:Int} (a:Int) (ha:1≤a) (h:Ok B r) (hB:B≤20000):Tot (fun v=>smC v.2.1) (s_l21Ckp (r,a)):=by
 simp only [s_l21Ckp]
 refine Tot.bd (l21Flow_t h hB) fun v1 h1 => ?_
 obtain ⟨hF,_,ho⟩:=h1
 have hcd:=hF.cd
 have hfd:=hF.fd
 have hs:=hfd.s
 have ht:=hfd.t
 have hcp:=s_l9Copy_e (fC v1.1) (hcd.sm hfd)
 simp only [fC] at hcp
 simp only [hcp,bd_s]
 refine Tot.bd (P:=fun v=>Ok (B+6001) v.1∧v.2.2.2.1=v1.1∧v.2.2.2.2.1=v1.1.2.2.2.2.2) ?_ fun v4 h4 => ?_
 ·exact Tot.bd (pickP 3 ho (by omega) (by omega)) fun v3 h3=>Tot.cnd (fun _=>Tot.sm ⟨h3.2.2.mono (by omega),rfl,rfl⟩) (fun _=>Tot.sm ⟨h3.2.2.mono (by omega),rfl,rfl⟩)
 obtain ⟨rd,zj,zc,f4,c4,b4⟩:=v4
 obtain ⟨o4,e1,e2⟩:=h4
 simp only at o4 e1 e2
 subst e1 e2
 refine Tot.bd (P:=fun v=>Ok (B+6001) v.1∧v.2.2.2.1=v1.1∧CD v1.1 v.2.2.2.2) ?_ fun v17 h17 => ?_
 ·refine Tot.cnd (fun _ => ?_) (fun _=>Tot.sm ⟨o4,rfl,hcd⟩)
  refine Tot.bd (P:=fun v=>Ok (B+6001) v.1∧v.2.2.2.1=v1.1∧CD v1.1 v.2.2.2.2) ?_ fun v8 h8 => ?_
  ·refine Tot.iter (fun s:l20Rd×JobJob×CkpState×FloFlow×CkpState×Int=>Ok (B+6001) s.1∧s.2.2.2.1=v1.1∧CD v1.1 s.2.2.2.2.1∧(0≤s.2.2.2.2.2∧s.2.2.2.2.2≤v1.1.2.2.1.length)) (fun s=>((v1.1.2.2.1.length:Int)-s.2.2.2.2.2).toNat) (fun s hs' => ?_) ⟨o4,rfl,hcd,by simp,by simp⟩
   obtain ⟨rd,zj,zc,f,c,i⟩:=s
   obtain ⟨a1,a2,a3,i0,i1⟩:=hs'
   simp only at a1 a2 a3 i0 i1
   subst a2
   have hl:=a3.s
   refine Tot.cnd (fun hc => ?_) (fun _=>Tot.sm ⟨a1,rfl,a3⟩)
   have hc:i<c.2.2.1.length:=by simpa using hc
   have hn:i.toNat<c.2.2.1.length:=by omega
   refine Tot.bd (Tot.ixT i0 (show i<(v1.1.2.2.1.length:Int) by omega)) fun v6 _ => ?_
   refine Tot.bd (Tot.ixT i0 hc) fun v7 _=>Tot.sm ?_
   have w1:w6 (i+1)=i+1:=w6_id (by omega) (by omega)
   simp only [w1]
   refine ⟨⟨a1,rfl,⟨by simp only;rw [upd_len _ _ _ hn];exact hl,a3.t,a3.p,a3.pp,a3.a,a3.z,a3.zz⟩,by simp only;omega,by simp only;omega⟩,?_⟩
   show ((v1.1.2.2.1.length:Int)-(i+1)).toNat<((v1.1.2.2.1.length:Int)-i).toNat
   omega
  ·obtain ⟨rd8,zj8,zc8,f8,c8⟩:=v8
   obtain ⟨o8,e1,d8⟩:=h8
   simp only at o8 e1 d8
   subst e1
   refine Tot.bd (P:=fun v=>Ok (B+6001) v.1∧v.2.2.2.1=v1.1∧CD v1.1 v.2.2.2.2) ?_ fun v h=>Tot.sm h
   refine Tot.iter (fun s:l20Rd×JobJob×CkpState×FloFlow×CkpState×Int=>Ok (B+6001) s.1∧s.2.2.2.1=v1.1∧CD v1.1 s.2.2.2.2.1∧(0≤s.2.2.2.2.2∧s.2.2.2.2.2≤v1.1.2.2.2.1.length)) (fun s=>((v1.1.2.2.2.1.length:Int)-s.2.2.2.2.2).toNat) (fun s hs' => ?_) ⟨o8,rfl,d8,by simp,by simp⟩
   obtain ⟨rd,zj,zc,f,c,i⟩:=s
   obtain ⟨a1,a2,a3,i0,i1⟩:=hs'
   simp only at a1 a2 a3 i0 i1
   subst a2
   have hl:=a3.t
   have hl2:=a3.p
   refine Tot.cnd (fun hc => ?_) (fun _=>Tot.sm ⟨a1,rfl,a3⟩)
   have hc:i<c.2.2.2.1.length:=by simpa using hc
   have hn:i.toNat<c.2.2.2.1.length:=by omega
   have hn2:i.toNat<c.2.2.2.2.1.length:=by omega
   refine Tot.bd (Tot.ixT i0 hc) fun v10 _ => ?_
   refine Tot.bd (Tot.ixT i0 (show i<(v1.1.2.2.2.1.length:Int) by omega)) fun v11 h11 => ?_
   have hsm:=pTsk_sm (hF.ok.tsk v11 h11).1
   rw [s_l7Copy_e v11.2.1 (by omega)]
   simp only [bd_s]
   refine Tot.bd (Tot.ixT i0 (show i<(v1.1.2.2.2.1.length:Int) by omega)) fun v13 h13 => ?_
   have hsm2:=pTsk_sm (hF.ok.tsk v13 h13).1
   rw [s_l10Marks_e v13 (by omega)]
   simp only [bd_s]
   refine Tot.bd (Tot.ixT i0 (show i<(c.2.2.2.2.1.length:Int) by omega)) fun v15 _=>Tot.sm ?_
   have w1:w6 (i+1)=i+1:=w6_id (by omega) (by omega)
   simp only [w1]
   refine ⟨⟨a1,rfl,⟨a3.s,by simp only;rw [upd_len _ _ _ hn];exact hl,by simp only;rw [upd_len _ _ _ hn2];exact hl2,?_,a3.a,a3.z,a3.zz⟩,by simp only;omega,by simp only;omega⟩,?_⟩
   ·intro s hs
    have hs:s∈c.2.2.2.2.1.take i.toNat++(v11.2.1,tMarks v13)::c.2.2.2.2.1.drop (i.toNat+1):=hs
    rw [upd_set _ hn2] at hs
    rcases mem_set' hs with hs|rfl
    ·exact a3.pp s hs
    ·exact ⟨by simp only;omega,by simp only [tMarks,List.length_map];omega⟩
   ·show ((v1.1.2.2.2.1.length:Int)-(i+1)).toNat<((v1.1.2.2.2.1.length:Int)-i).toNat
    omega
 ·obtain ⟨rd,zj,zc,f,c⟩:=v17
  obtain ⟨o17,e1,d⟩:=h17
  simp only at o17 e1 d
  subst e1
  have hsm:=d.sm hfd
  have hd1:=d.s
  have hd2:=d.t
  have hd3:=d.p
  have hd4:=d.a
  have hd5:=d.z
  refine Tot.bd (pickP a o17 (by omega) ha) fun v18 h18 => ?_
  refine Tot.cnd (fun _=>Tot.sm hsm) (fun _ => ?_)
  refine Tot.bd (pickP 8 h18.2.2 (by omega) (by omega)) fun v19 h19 => ?_
  refine Tot.cnd (fun _ => ?_) (fun _ => ?_)
  ·exact Tot.bd (l20AnyJob_t 1 (by omega) h19.2.2 (by omega)) fun v20 _=>Tot.sm hsm
  ·refine Tot.bd (P:=fun v=>smC v.2.2.2.2) ?_ fun v h=>Tot.sm h
   obtain ⟨c1,c2,c3,c4,c5,c6,c7,c8⟩:=c
   obtain ⟨s1,s2,s3,s4,s5,s6,s7⟩:=hsm
   simp only at s1 s2 s3 s4 s5 s6 s7 hd1 hd2 hd3 hd4 hd5
   refine Tot.cnd (fun _ => ?_) (fun _=>Tot.cnd (fun _=>Tot.sm ⟨s1,s2,s3,s4,s5,s6,s7⟩) (fun _=>Tot.cnd (fun _ => ?_) (fun _=>Tot.cnd (fun _ => ?_) (fun _=>Tot.cnd (fun _ => ?_) (fun _=>Tot.cnd (fun _ => ?_) (fun _ => ?_))))))
   ·refine Tot.bd (pickP 3 h19.2.2 (by omega) (by omega)) fun v21 h21 => ?_
    exact Tot.bd (Tot.ixT h21.1 (by simpa using h21.2.1)) fun v22 _=>Tot.sm ⟨s1,s2,s3,s4,s5,s6,s7⟩
   ·refine Tot.gd (show (c3.length+[(0:Int)].length)*8≤140737488355328 by simp only [List.length_singleton];omega) (Tot.sm ⟨by simp only [List.length_append,List.length_singleton];omega,s2,s3,s4,s5,s6,s7⟩)
   ·refine Tot.bd (pickP 4 h19.2.2 (by omega) (by omega)) fun v21 h21 => ?_
    refine Tot.bd (Tot.ixT h21.1 (by simpa using h21.2.1)) fun v22 _ => ?_
    refine Tot.bd (Tot.ixT (l:=c3) (by omega) (show (0:Int)<(c3.length:Int) by omega)) fun v25 _=>Tot.sm ⟨?_,s2,s3,s4,s5,s6,s7⟩
    show (c3.take (0:Int).toNat++v22::c3.drop ((0:Int).toNat+1)).length≤1000000
    rw [upd_len _ _ _ (by show 0<c3.length;omega)];exact s1
   ·refine Tot.bd (Tot.ixT (l:=c4) (by omega) (show (0:Int)<(c4.length:Int) by omega)) fun v26 _=>Tot.gd trivial (Tot.sm ⟨s1,?_,s3,s4,s5,s6,s7⟩)
    show (c4.take (0:Int).toNat++(!v26)::c4.drop ((0:Int).toNat+1)).length≤1000000
    rw [upd_len _ _ _ (by show 0<c4.length;omega)];exact s2
   ·refine Tot.bd (pickP 3 h19.2.2 (by omega) (by omega)) fun v21 h21 => ?_
    exact Tot.bd (Tot.ixT h21.1 (by simpa using h21.2.1)) fun v22 _=>Tot.sm ⟨s1,s2,s3,s4,s5,s6,s7⟩
   ·refine Tot.bd (Tot.ixT (l:=c8) (by omega) (show (0:Int)<(c8.length:Int) by omega)) fun v29 h29 => ?_
    have hz:=d.zz v29 h29
    have hbo:Tot (fun v=>v.1.2.length≤v29.1.2.length+1∧Ok (B+6001+1+1+20) v.2) (s_l21BadOp_o (v19.2,v29.1)):=l21BadOp_t v29.1 (by omega) h19.2.2 (by omega)
    refine Tot.bd hbo fun v30 h30=>Tot.gd trivial (Tot.sm ⟨s1,s2,s3,s4,s5,?_,?_⟩)
    ·show (c8.take (0:Int).toNat++(v30.1,v29.2)::c8.drop ((0:Int).toNat+1)).length≤1000000
     rw [upd_len _ _ _ (by show 0<c8.length;omega)];exact s6
    ·intro s hs
     have hs:s∈c8.take 0++(v30.1,v29.2)::c8.drop (0+1):=hs
     rw [upd_set _ (show 0<c8.length by omega)] at hs
     rcases mem_set' hs with hs|rfl
     ·exact s7 s hs
     ·have:=h30.1
      exact ⟨by simp only;omega,by simp only;omega⟩
theorem DrawCkpSave_t (l:List Int) (hb:∀ x,x∈l→0≤x∧x≤255):Tot (fun v=>smC v.2) (s_DrawCkpSave l):=by
 simp only [s_DrawCkpSave]
 refine Tot.bd (l20Open_t l hb) fun v1 h1 => ?_
 exact Tot.bd (l21Ckp_t 12 (by omega) h1 (by omega)) fun v2 h2=>Tot.sm h2
theorem i_marksOk_e (j:JobJob) (m:List Int) (h:m.length<1000000000):i_marksOk (j,m)=some ((m.length:Int)==j.1&&m.all isTm):=by
 simp only [i_marksOk]
 rw [cl_e,cF_int m i_marksOk__1 (fun x => !isTm x) (fun x _=>by simp only [i_marksOk__1,i_isTime_e,bd_s];rfl) h]
 have e:(!m.any fun x => !isTm x)=m.all isTm:=by rw [List.not_any_eq_all_not];simp
 simp only [bd_s,e]
 cases (m.length:Int)==j.1<;>rfl
theorem low_first (x:Int) (l:List Int) (h:x≤1000):lowI (x::l)=l.foldl (fun n m=>if m<n then m else n) x:=by
 simp only [lowI,List.foldl_cons]
 split
 ·rfl
 ·have:x=1000:=by omega
  rw [this]
theorem g_Min_e (l:List Int) (hl:0<l.length) (h:l.length<1000000000) (hb:∀ m,m∈l→m≤1000):g_Min_int l=some (lowI l):=by
 cases l with
 | nil=>simp at hl
 | cons x l =>
  have hd:decide ((((x::l).length:Nat):Int)<1)=false:=by simp only [List.length_cons,decide_eq_false_iff_not];omega
  have h0:ix (x::l) (0:Int)=some x:=rfl
  simp only [g_Min_int,hd,cnd_f,h0,bd_s]
  have key:∀ k i:Nat,i+k=(x::l).length→∀ n:Int,iter (A:=Int×Int) (B:=Int) (fun v2=>cnd (decide (v2.2<(((x::l).length:Nat):Int))) (bd (ix (x::l) v2.2) fun v3=>some (.inl ((if v3<v2.1 then v3 else v2.1),w6 (v2.2+1)))) (some (.inr v2.1))) (n,(i:Int))=some (((x::l).drop i).foldl (fun n m=>if m<n then m else n) n):=by
   intro k
   induction k with
   | zero =>
    intro i hi n
    rw [it_u]
    have hd:decide ((i:Int)<(((x::l).length:Nat):Int))=false:=by simp only [decide_eq_false_iff_not];omega
    simp only [hd,cnd_f,bd_s,cs_r]
    rw [List.drop_of_length_le (by omega)]
    rfl
   | succ k ih =>
    intro i hi n
    have hlt:i<(x::l).length:=by omega
    rw [it_u]
    simp only [lt_d hlt,cnd_t,ix_t hlt,bd_s,cs_l,w6_s hlt h]
    have:=ih (i+1) (by omega) (if (x::l)[i]<n then (x::l)[i] else n)
    rw [List.drop_eq_getElem_cons hlt,List.foldl_cons]
    exact this
  have:=key l.length 1 (by simp;omega) x
  have e:((1:Nat):Int)=1:=rfl
  rw [e] at this
  rw [this,low_first x l (hb x (List.mem_cons_self ..))]
  rfl
theorem i_CkpSnap_ok_e (j:JobJob) (s:CkpSnap) (h:s.1.2.length<1000000000∧s.2.length<1000000000):i_CkpSnap_ok (s,j)=some (pSnap j s):=by
 simp only [i_CkpSnap_ok,i_OpOk_e j s.1 h.1,i_marksOk_e j s.2 h.2,bd_s,pSnap]
 cases hp:pOp j s.1
 ·rfl
 have hS:=(job_S (pOp_job hp)).1
 cases hl:(s.2.length:Int)==j.1
 ·rfl
 have hl':(s.2.length:Int)=j.1:=by simpa using hl
 cases hm:s.2.all isTm
 ·rfl
 have hb:∀ m,m∈s.2→m≤1000:=fun m hm'=>(inR_iff.1 (List.all_eq_true.1 hm m hm')).2
 simp only [Bool.and_self,cnd_t,g_Min_e s.2 (by omega) h.2 hb,bd_s,Bool.true_and]
theorem i_CkpSnap_empty_e (s:CkpSnap):i_CkpSnap_empty s=some (snEmpty s):=by
 simp only [i_CkpSnap_empty,snEmpty]
 have e:∀ n:Nat,((n:Int)==0)=(n==0):=by
  intro n;rw [Bool.eq_iff_iff];simp
 rw [e,e]
 cases s.1.1==0<;>(try rfl)
 cases s.1.2.length==0<;>rfl
theorem i_CkpSafe_ok_e (j:JobJob) (s:CkpSafe) (h:s.2.1.length<1000000000∧s.2.2.length<1000000000) (hs:∀ x,x∈s.2.2→x.1.2.length<1000000000∧x.2.length<1000000000):i_CkpSafe_ok (s,j)=some (pSafe j s):=by
 have e1:=cF_int s.2.1 i_CkpSafe_ok_1 (fun n => !inR n 0 40) (fun x _=>by simp only [i_CkpSafe_ok_1,i_in_e,bd_s]) h.1
 have e2:=cF_CkpSnap s.2.2 (fun q=>i_CkpSafe_ok_2 (q,j)) (fun q => !pSnap j q) (fun x hx=>by simp only [i_CkpSafe_ok_2,i_CkpSnap_ok_e j x (hs x hx),bd_s]) h.2
 have n1:(!s.2.1.any fun n => !inR n 0 40)=s.2.1.all fun n=>inR n 0 40:=by rw [List.not_any_eq_all_not];simp
 have n2:(!s.2.2.any fun q => !pSnap j q)=s.2.2.all (pSnap j):=by rw [List.not_any_eq_all_not];simp
 simp only [i_CkpSafe_ok,i_in_e,bd_s,cl_e,e1,e2,n1,n2,pSafe]
 cases inR s.1 0 900<;>(try rfl)
 cases (s.2.1.length:Int)==j.1<;>(try rfl)
 cases (s.2.2.length:Int)==j.2.1<;>cases s.2.1.all (fun n=>inR n 0 40)<;>rfl
theorem i_CkpOk_e (j:JobJob) (c:CkpState) (h:smC c):i_CkpOk (j,c)=some (pCkp j c):=by
 obtain ⟨h1,h2,h3,h4,h5,h6,h7⟩:=h
 have e0:=i_CkpSafe_ok_e j c.2.2.2.2.2 ⟨by omega,by omega⟩ (fun x hx=>by have:=h7 x hx;omega)
 simp only [i_CkpOk,i_JobOk_e,e0,i_in_e,bd_s,bd_cnd,pCkp,bne_b]
 cases hj:jobOk j<;>(try rfl)
 cases h4':pSafe j c.2.2.2.2.2
 ·simp only [Bool.not_true,Bool.not_false,cnd_f,cnd_t,Bool.and_false,Bool.false_and]
 cases inR c.1 c.2.2.2.2.2.1 900<;>(try rfl)
 cases ho:c.2.1&&c.1==c.2.2.2.2.2.1
 rotate_left
 ·simp only [Bool.and_eq_true] at ho
  simp only [ho.1,ho.2];rfl
 have e:∀ (x y:Option Bool),cnd c.2.1 (cnd (c.1==c.2.2.2.2.2.1) x y) y=y:=by
  intro x y
  cases hc:c.2.1
  ·rfl
  ·rw [hc] at ho
   simp only [Bool.true_and] at ho
   rw [ho];rfl
 simp only [Bool.not_true,Bool.not_false,cnd_f,cnd_t,e]
 cases hl1:(c.2.2.1.length:Int)==j.1<;>(try rfl)
 cases hl2:(c.2.2.2.1.length:Int)==j.2.1<;>(try rfl)
 cases hl3:(c.2.2.2.2.1.length:Int)==j.2.1<;>(try rfl)
 have hl:c.2.2.2.2.1.length=c.2.2.2.1.length:=by
  simp only [beq_iff_eq] at hl2 hl3;omega
 simp only [Bool.not_true,Bool.not_false,cnd_f,cnd_t,Bool.true_and]
 rw [each_f (A:=JobJob×(CkpState×Int)) (C:=JobJob×CkpState) c.2.2.1 (pSrc c.2.1) (fun i=>(j,c,i)) (j,c) (by omega) (by simp) (fun i hi=>by
  simp only [lt_d hi,ix_t hi,w6_s hi (show c.2.2.1.length<1000000000 by omega),bd_s,cnd_t,pSrc]
  rcases Bool.eq_false_or_eq_true (inR c.2.2.1[i] (-1) 40) with h|h<;>rcases Bool.eq_false_or_eq_true c.2.1 with h'|h'<;>rcases Bool.eq_false_or_eq_true (c.2.2.1[i] == -1) with h''|h''<;>simp [h,h',h''])]
 cases c.2.2.1.all (pSrc c.2.1)<;>(try rfl)
 simp only [if_true,cs_r,bd_s,Bool.true_and]
 rw [all2_f (A:=JobJob×(CkpState×Int)) (C:=PUnit) c.2.2.2.1 c.2.2.2.2.1 (pTsnap j c.2.1) hl (fun i=>(j,c,i)) () (by simp) (fun i hi=>by
  have hi3:i<c.2.2.2.2.1.length:=by omega
  have hsm:=h4 _ (List.getElem_mem hi3)
  have es:=i_CkpSnap_ok_e j c.2.2.2.2.1[i] ⟨by omega,by omega⟩
  simp only [lt_d hi,ix_t hi,ix_t hi3,w6_s hi (show c.2.2.2.1.length<1000000000 by omega),bd_s,cnd_t,es,i_CkpSnap_empty_e,pTsnap]
  rcases Bool.eq_false_or_eq_true c.2.2.2.1[i] with h|h
  ·rcases Bool.eq_false_or_eq_true c.2.1 with h'|h'<;>rcases Bool.eq_false_or_eq_true (pSnap j c.2.2.2.2.1[i]) with h''|h''<;>simp [h,h',h'']
  ·rcases Bool.eq_false_or_eq_true (snEmpty c.2.2.2.2.1[i]) with h''|h''<;>simp [h,h''])]
 cases all2 (pTsnap j c.2.1) c.2.2.2.1 c.2.2.2.2.1<;>rfl
theorem i_snaps_e (l:List CkpSnap) (hl:l.length≤1000000) (h:∀ s,s∈l→s.1.2.length≤1000000∧s.2.length≤1000000):i_snaps l=some l:=by
 simp only [i_snaps]
 rw [fold_i (A:=List CkpSnap×Int) (B:=List CkpSnap) l (fun (o:List CkpSnap) c=>o++[c]) (fun i o=>o.length≤i) (fun o i=>(o,i)) (fun o=>o) [] (by simp) (fun o=>by simp) (fun o i hi hI=>by
  refine ⟨len_1 hI,?_⟩
  have g1:(o.length+1)*56≤140737488355328:=by omega
  have:=h _ (List.getElem_mem hi)
  have c1:g_Clone_OpRow l[i].1.2=some l[i].1.2:=clone_t (by omega)
  have c2:g_Clone_int l[i].2=some l[i].2:=clone_t (by omega)
  simp only [lt_d hi,ix_t hi,w6_s hi (show l.length<1000000000 by omega),bd_s,cnd_t,i_CkpSnap_copied,i_OpState_copied,c1,c2,gd_t g1])]
 rw [fold_app]
 rfl
theorem i_CkpState_copied_e (c:CkpState) (h:smC c):i_CkpState_copied c=some c:=by
 obtain ⟨h1,h2,h3,h4,h5,h6,h7⟩:=h
 have c1:g_Clone_int c.2.2.1=some c.2.2.1:=clone_t (by omega)
 have c2:g_Clone_bool c.2.2.2.1=some c.2.2.2.1:=clone_t (by omega)
 have c3:g_Clone_int c.2.2.2.2.2.2.1=some c.2.2.2.2.2.2.1:=clone_t (by omega)
 simp only [i_CkpState_copied,c1,c2,c3,i_snaps_e _ h3 h4,i_snaps_e _ h6 h7,bd_s]
theorem g_Contains_int_e (l:List Int) (x:Int) (h:l.length<1000000000):g_Contains_int (l,x)=some (l.any fun y=>x==y):=by
 have:=indexF l (fun y=>some (x==y)) (fun y=>x==y) (fun _ _=>rfl) h
 simp only [g_Contains_int,g_Index_int]
 simp only [bd_s] at this
 rw [this]
 simp only [bd_s]
 rw [idxG_ge _ l 0 (by omega)]
theorem g_Contains_bool_e (l:List Bool) (x:Bool) (h:l.length<1000000000):g_Contains_bool (l,x)=some (l.any fun y=>x==y):=by
 have:=indexF l (fun y=>some (x==y)) (fun y=>x==y) (fun _ _=>rfl) h
 simp only [g_Contains_bool,g_Index_bool]
 simp only [bd_s] at this
 rw [this]
 simp only [bd_s]
 rw [idxG_ge _ l 0 (by omega)]
def iReady (c:CkpState):Bool:=c.2.1&&(!c.2.2.1.any fun y=>(-1)==y) && !c.2.2.2.1.any fun y=>false==y
theorem i_ready_e (c:CkpState) (h:smC c):i_CkpState_ready c=some (iReady c,c):=by
 obtain ⟨h1,h2,_⟩:=h
 simp only [i_CkpState_ready,g_Contains_int_e c.2.2.1 (-1) (by omega),g_Contains_bool_e c.2.2.2.1 false (by omega),bd_s,iReady]
 cases c.2.1
 ·rfl
 ·cases c.2.2.1.any fun y=>(-1)==y<;>rfl
theorem ready_same {j:JobJob} {c:CkpState} (h:pCkp j c=true):iReady c=cReady c:=by
 have hc:=(pCkp_iff j c).1 h
 have e1:(!c.2.2.1.any fun y=>(-1)==y)=c.2.2.1.all fun n => !decide (n<0):=by
  rw [List.not_any_eq_all_not,Bool.eq_iff_iff]
  simp only [List.all_eq_true,Bool.not_eq_true',beq_eq_false_iff_ne,decide_eq_false_iff_not]
  constructor
  ·intro h x hx;have:=h x hx;have:=(hc.src x hx).1;omega
  ·intro h x hx;have:=h x hx;omega
 have e2:(!c.2.2.2.1.any fun y=>false==y)=c.2.2.2.1.all fun b=>b:=by
  rw [List.not_any_eq_all_not]
  congr 1
  funext b;cases b<;>rfl
 simp only [iReady,cReady,e1,e2]
 cases c.2.1<;>simp
theorem g_Repeat_e {j:JobJob} (hj:jobOk j=true):g_Repeat_int ([-1],j.1)=some (List.replicate j.1.toNat (-1)):=by
 have hS:=(job_S hj).1
 have:=g_Repeat_z j.1.toNat (by omega)
 have e:(j.1.toNat:Int)=j.1:=by omega
 rw [e] at this;exact this
theorem i_save_e (j:JobJob) (c:CkpState) (h:smC c) (hj:jobOk j=true):i_CkpState_save (c,j)=some (if iReady c then (true,cSaved j c) else (false,c)):=by
 have hS:=job_S hj
 simp only [i_CkpState_save,i_ready_e c h,g_Repeat_e hj,bd_s]
 cases iReady c
 ·rfl
 ·simp only [Bool.not_true,cnd_f,if_true]
  rw [gd_t (show 0≤j.2.1∧j.2.1.toNat*1≤140737488355328∧j.2.1.toNat≤9223372036854775807 from ⟨by omega,by omega,by omega⟩),gd_t (show 0≤j.2.1∧j.2.1.toNat*56≤140737488355328∧j.2.1.toNat≤9223372036854775807 from ⟨by omega,by omega,by omega⟩)]
  rfl
theorem i_CkpSave_e (j:JobJob) (c:CkpState) (h:smC c):i_CkpSave (j,c)=some (pCkpSave j c):=by
 simp only [i_CkpSave,i_CkpOk_e j c h,bd_s,pCkpSave]
 cases hp:pCkp j c
 ·rfl
 ·simp only [Bool.not_true,cnd_f,i_CkpState_copied_e c h,bd_s,i_save_e j c h (pCkp_job hp),ready_same hp,Bool.false_eq_true,if_false]
  cases cReady c<;>rfl
theorem i_CkpReady_e (j:JobJob) (c:CkpState) (h:smC c):i_CkpReady (j,c)=some (pCkp j c&&cReady c):=by
 have hv:i_CkpState_ready_v c=some (iReady c,c):=i_ready_e c h
 simp only [i_CkpReady,i_CkpOk_e j c h,bd_s,hv]
 cases hp:pCkp j c
 ·rfl
 ·rw [ready_same hp];rfl
theorem s_CkpReady_e (j:JobJob) (c:CkpState) (h:smC c):s_CkpReady (j,c)=some (pCkp j c&&cReady c):=by
 simp only [s_CkpReady,s_CkpOk_e j c (smC_sn h),bd_s,s_l9Ready_e c h]
 cases pCkp j c<;>rfl
theorem saved_ok {j:JobJob} {c:CkpState} (hc:CkpP j c) (hr:cReady c=true):CkpP j (cSaved j c):=by
 simp only [cReady,Bool.and_eq_true,List.all_eq_true,Bool.not_eq_true',decide_eq_false_iff_not] at hr
 obtain ⟨⟨r1,r2⟩,r3⟩:=hr
 have hn:=hc.n
 have hsn:=hc.sn
 have hsl:=hc.srcl
 have htl:=hc.tskl
 have hpl:=hc.snpl
 refine drop_ckp hc.job ⟨Int.le_refl _,hn.2⟩ (show 0≤c.1 by omega) hc.srcl hc.snpl ?_ ?_
 ·intro n hn
  have:=r1 n hn
  have:=(hc.src n hn).1
  omega
 ·intro s hs
  obtain ⟨i,hi,rfl⟩:=List.mem_iff_getElem.1 hs
  have hi2:i<c.2.2.2.1.length:=by
   have hi:i<c.2.2.2.2.1.length:=hi
   omega
  have ht:=r2 _ (List.getElem_mem hi2)
  have:=hc.snp i hi2 hi
  simp only [pTsnap,ht,if_true,Bool.and_eq_true] at this
  exact this.2
theorem smC_fr {c:CkpState} (h:smC c):smCkp c:=by
 obtain ⟨h1,h2,h3,h4,h5,h6,h7⟩:=h
 exact ⟨by omega,by omega,by omega,fun s hs=>by have:=h4 s hs;exact ⟨by omega,by omega⟩,by omega,by omega,fun s hs=>by have:=h7 s hs;exact ⟨by omega,by omega⟩⟩
theorem FnCkpSave_law (l:List Int) (hb:∀ x,x∈l→0≤x∧x≤255):l_FnCkpSave l=some true:=by
 obtain ⟨⟨j,c⟩,hd,hs⟩:=DrawCkpSave_t l hb
 simp only at hs
 simp only [l_FnCkpSave,hd,bd_s,i_CkpSave_e j c hs,s_CkpSave_e j c hs,i_CkpReady_e j c hs,s_CkpReady_e j c hs,s_CkpOk_e j c (smC_sn hs)]
 have q1:=s_CkpOk_e j c (smC_sn hs)
 have q2:=i_CkpReady_e j c hs
 cases decide ((l.length:Int)>1048576)
 rotate_left
 ·rfl
 simp only [cnd_f]
 cases hp:pCkp j c
 ·have hz:l_frCkp (ckpZ,ckpZ)=some true:=frCkp_s ckpZ ⟨by simp,by simp,by simp,by simp,by simp,by simp,by simp⟩
  simp only [pCkpSave,hp,Bool.not_false,Bool.false_and,if_true,hz,bd_s,bne_self_eq_false,Bool.not_true,cnd_f,cnd_t,frOk_z,q1,q2]
 ·have hc:=(pCkp_iff j c).1 hp
  cases hr:cReady c
  ·have hf:=frCkp_s c (smC_fr hs)
   simp only [pCkpSave,hp,hr,Bool.not_true,Bool.not_false,Bool.and_false,Bool.false_eq_true,if_false,if_true,hf,bd_s,bne_self_eq_false,cnd_f,cnd_t,q1,q2]
  ·have hsv:=saved_ok hc hr
   have hsm:=hsv.sm
   have hf:=frCkp_s (cSaved j c) (smC_fr hsm)
   have hok:=i_CkpOk_e j (cSaved j c) hsm
   have hfi:=frInts_s c.2.2.1 (by have:=hs.1;omega)
   have hfs:=frSnaps_s c.2.2.2.2.1 (by have:=hs.2.2.1;omega) (fun s h=>by have:=hs.2.2.2.1 s h;exact ⟨by omega,by omega⟩)
   have hpo:pCkp j (cSaved j c)=true:=(pCkp_iff _ _).2 hsv
   have e1:(cSaved j c).2.2.2.2.2.1=c.1:=rfl
   have e2:(cSaved j c).2.2.2.2.2.2.1=c.2.2.1:=rfl
   have e3:(cSaved j c).2.2.2.2.2.2.2=c.2.2.2.2.1:=rfl
   have e4:(cSaved j c).2.1=false:=rfl
   have e5:(cSaved j c).1=c.1:=rfl
   simp only [pCkpSave,hp,hr,Bool.not_true,Bool.not_false,Bool.and_self,Bool.false_eq_true,if_false,hf,bd_s,bne_self_eq_false,cnd_f,cnd_t,e1,e2,e3,e4,e5,beq_self_eq_true,hfi,hfs,hok,hpo,q1,q2]
end Go.Proofs.YtfhkpnnbklojoaaGreatA.AS
