/- A part of the proof that FnPanSound holds: the law about the plain functions. -/
import Derived.Test.YtfhkpnnbklojoaaGreatPl1
set_option linter.unusedVariables false
set_option linter.unusedSimpArgs false
namespace Go.Proofs.YtfhkpnnbklojoaaGreatA.AS
theorem l21Story_t {r:l20Rd} {B:Int} {f:FloFlow} (a:Int) (h:Ok B r) (hB:B≤80000) (hf:FD f):Tot (fun v=>Ok (B+6) v.2) (s_l21Story (r,f,a)):=by
 have hs:=hf.s
 have ht:=hf.t
 have ok6:=h.mono (C:=B+6) (by omega)
 simp only [s_l21Story]
 refine Tot.bd (P:=fun v=>match v with|.inl x=>Ok (B+6) x.1|.inr x=>x.1=r∧x.2.1=f) ?_ fun v8 h8 => ?_
 ·refine Tot.cnd (fun _=>Tot.sm ok6) (fun _=>Tot.cnd (fun _ => ?_) (fun _=>Tot.cnd (fun _ => ?_) (fun _=>Tot.cnd (fun _=>Tot.sm ok6) (fun _ => ?_))))
  ·exact Tot.bd (pickP _ h (by omega) (by omega)) fun v h=>Tot.sm (h.2.2.mono (by omega))
  ·refine Tot.bd (pickP 3 h (by omega) (by omega)) fun v h => ?_
   exact Tot.bd (Tot.ixT h.1 (by simpa using h.2.1)) fun w _=>Tot.sm (h.2.2.mono (by omega))
  ·refine Tot.bd (P:=fun v=>v.1=r∧v.2.1=f) (Tot.cnd (fun _=>Tot.sm ⟨rfl,rfl⟩) (fun _=>Tot.sm ⟨rfl,rfl⟩)) fun v2 h2 => ?_
   obtain ⟨a2,f2,c2⟩:=v2
   obtain ⟨e1,e2⟩:=h2
   simp only at e1 e2
   subst e1 e2
   refine Tot.cnd (fun _=>Tot.sm ok6) (fun _ => ?_)
   refine Tot.bd (P:=fun v=>v.1=a2∧v.2.1=f2) (Tot.cnd (fun _=>Tot.sm ⟨rfl,rfl⟩) (fun _=>Tot.sm ⟨rfl,rfl⟩)) fun v3 h3 => ?_
   obtain ⟨a3,f3,c3⟩:=v3
   obtain ⟨e1,e2⟩:=h3
   simp only at e1 e2
   subst e1 e2
   refine Tot.cnd (fun _ => ?_) (fun _ => ?_)
   ·refine Tot.bd (pickP 3 h (by omega) (by omega)) fun v h => ?_
    refine Tot.bd (Tot.ixT h.1 (by simpa using h.2.1)) fun w _ => ?_
    exact Tot.bd (pickP _ h.2.2 (by omega) (show (1:Int)≤(f3.2.2.2.1.length:Int) by omega)) fun v h=>Tot.sm (h.2.2.mono (by omega))
   ·refine Tot.bd (P:=fun v=>v.1=a3∧v.2.1=f3) (Tot.cnd (fun _=>Tot.sm ⟨rfl,rfl⟩) (fun _=>Tot.sm ⟨rfl,rfl⟩)) fun v4 h4 => ?_
    obtain ⟨a4,f4,c4⟩:=v4
    obtain ⟨e1,e2⟩:=h4
    simp only at e1 e2
    subst e1 e2
    refine Tot.cnd (fun _ => ?_) (fun _=>Tot.sm ⟨rfl,rfl⟩)
    exact Tot.bd (pickP _ h (by omega) (show (1:Int)≤(f4.2.2.2.1.length:Int) by omega)) fun v h=>Tot.sm (h.2.2.mono (by omega))
 ·cases v8 with
  | inl x=>exact Tot.sm h8
  | inr x =>
   obtain ⟨a6,f6,c6⟩:=x
   obtain ⟨e1,e2⟩:=h8
   simp only at e1 e2
   subst e1 e2
   exact Tot.bd (l21Lively_t h (by omega) hf) fun v h=>Tot.sm h
theorem l21Given_t {r:l20Rd} {B:Int} {f:FloFlow} (a:Int) (h:Ok B r) (hB:B≤80000) (hf:FD f):Tot (fun v=>Ok (B+6) v.2) (s_l21Given (r,f,a)):=by
 have hs:=hf.s
 have ht:=hf.t
 have ok6:=h.mono (C:=B+6) (by omega)
 simp only [s_l21Given]
 refine Tot.bd (P:=fun v=>match v with|.inl x=>x.1=r|.inr x=>x.1=r∧x.2.1=f) ?_ fun v8 h8 => ?_
 ·refine Tot.iter (fun s:l20Rd×FloFlow×(Int×Int×Int)×Int=>s.1=r∧s.2.1=f∧0≤s.2.2.2∧s.2.2.2≤f.2.2.2.1.length) (fun s=>((f.2.2.2.1.length:Int)-s.2.2.2).toNat) (fun s hs' => ?_) ⟨rfl,rfl,by simp,by simp⟩
  obtain ⟨rd,f',z,i⟩:=s
  obtain ⟨e1,e2,i0,i1⟩:=hs'
  simp only at e1 e2 i0 i1
  subst e1 e2
  refine Tot.bd (P:=fun v=>v.1=rd∧v.2.1=f'∧(v.2.2.2=true→i<f'.2.2.2.1.length)) (Tot.cnd (fun hc=>Tot.sm ⟨rfl,rfl,fun _=>by simpa using hc⟩) (fun _=>Tot.sm ⟨rfl,rfl,by simp⟩)) fun v2 h2 => ?_
  obtain ⟨a2,f2,z2,c2⟩:=v2
  obtain ⟨e1,e2,e3⟩:=h2
  simp only at e1 e2 e3
  subst e1 e2
  refine Tot.cnd (fun hc => ?_) (fun _=>Tot.sm ⟨rfl,rfl⟩)
  have hil:=e3 hc
  refine Tot.bd (P:=fun v=>match v with|.inl x=>x.1=a2|.inr x=>x.1=a2∧x.2.1=f2) ?_ fun v9 h9 => ?_
  ·refine Tot.iter (fun s:l20Rd×FloFlow×(Int×Int×Int)×Int=>s.1=a2∧s.2.1=f2∧0≤s.2.2.2∧s.2.2.2≤f2.2.2.1.length) (fun s=>((f2.2.2.1.length:Int)-s.2.2.2).toNat) (fun s hs' => ?_) ⟨rfl,rfl,by simp,by simp⟩
   obtain ⟨rd3,f3,z3,k⟩:=s
   obtain ⟨e1,e2,k0,k1⟩:=hs'
   simp only at e1 e2 k0 k1
   subst e1 e2
   refine Tot.cnd (fun hc => ?_) (fun _=>Tot.sm ⟨rfl,rfl⟩)
   have hk:k<f3.2.2.1.length:=by simpa using hc
   refine Tot.bd (P:=fun v=>v.1=rd3∧v.2.1=f3) ?_ fun v8 h8 => ?_
   ·refine Tot.bd (Tot.ixT i0 hil) fun v4 h4 => ?_
    have h5:=hf.i v4 h4
    refine Tot.bd (Tot.ixT k0 (show k<(v4.1.length:Int) by omega)) fun v5 _ => ?_
    refine Tot.cnd (fun _ => ?_) (fun _=>Tot.sm ⟨rfl,rfl⟩)
    refine Tot.bd (Tot.ixT i0 hil) fun v6 h6 => ?_
    have h7:=hf.i v6 h6
    exact Tot.bd (Tot.ixT k0 (show k<(v6.1.length:Int) by omega)) fun v5 _=>Tot.sm ⟨rfl,rfl⟩
   ·obtain ⟨a8,f8,z8,c8⟩:=v8
    obtain ⟨e1,e2⟩:=h8
    simp only at e1 e2
    subst e1 e2
    refine Tot.cnd (fun _=>Tot.sm rfl) (fun _=>Tot.sm ?_)
    have w1:w6 (k+1)=k+1:=w6_id (by omega) (by omega)
    simp only [w1]
    refine ⟨⟨rfl,rfl,by simp only;omega,by simp only;omega⟩,?_⟩
    show ((f8.2.2.1.length:Int)-(k+1)).toNat<((f8.2.2.1.length:Int)-k).toNat
    omega
  ·cases v9 with
   | inl x=>exact Tot.sm h9
   | inr x =>
    obtain ⟨a6,f6,z6⟩:=x
    obtain ⟨e1,e2⟩:=h9
    simp only at e1 e2
    subst e1 e2
    refine Tot.sm ?_
    have w1:w6 (i+1)=i+1:=w6_id (by omega) (by omega)
    simp only [w1]
    refine ⟨⟨rfl,rfl,by simp only;omega,by simp only;omega⟩,?_⟩
    show ((f6.2.2.2.1.length:Int)-(i+1)).toNat<((f6.2.2.2.1.length:Int)-i).toNat
    omega
 ·cases v8 with
  | inl x =>
   obtain ⟨a6,x6⟩:=x
   simp only at h8
   subst h8
   exact Tot.sm ok6
  | inr x =>
   obtain ⟨a6,f6,z6⟩:=x
   obtain ⟨e1,e2⟩:=h8
   simp only at e1 e2
   subst e1 e2
   simp only [cs_r]
   refine Tot.bd (P:=fun v=>match v with|.inl x=>x.1=a6|.inr x=>x.1=a6∧x.2.1=f6) ?_ fun v9 h9 => ?_
   ·refine Tot.iter (fun s:l20Rd×FloFlow×(Int×Int×Int)×Int=>s.1=a6∧s.2.1=f6∧0≤s.2.2.2∧s.2.2.2≤f6.2.2.1.length) (fun s=>((f6.2.2.1.length:Int)-s.2.2.2).toNat) (fun s hs' => ?_) ⟨rfl,rfl,by simp,by simp⟩
    obtain ⟨rd,f',z,i⟩:=s
    obtain ⟨e1,e2,i0,i1⟩:=hs'
    simp only at e1 e2 i0 i1
    subst e1 e2
    refine Tot.bd (P:=fun v=>v.1=rd∧v.2.1=f'∧(v.2.2.2=true→i<f'.2.2.1.length)) (Tot.cnd (fun hc=>Tot.sm ⟨rfl,rfl,fun _=>by simpa using hc⟩) (fun _=>Tot.sm ⟨rfl,rfl,by simp⟩)) fun v2 h2 => ?_
    obtain ⟨a2,f2,z2,c2⟩:=v2
    obtain ⟨e1,e2,e3⟩:=h2
    simp only at e1 e2 e3
    subst e1 e2
    refine Tot.cnd (fun hc => ?_) (fun _=>Tot.sm ⟨rfl,rfl⟩)
    have hil:=e3 hc
    refine Tot.bd (Tot.ixT i0 hil) fun v4 h4 => ?_
    refine Tot.cnd (fun _=>Tot.sm rfl) (fun _=>Tot.sm ?_)
    have w1:w6 (i+1)=i+1:=w6_id (by omega) (by omega)
    simp only [w1]
    refine ⟨⟨rfl,rfl,by simp only;omega,by simp only;omega⟩,?_⟩
    show ((f2.2.2.1.length:Int)-(i+1)).toNat<((f2.2.2.1.length:Int)-i).toNat
    omega
   ·cases v9 with
    | inl x =>
     obtain ⟨a7,x7⟩:=x
     simp only at h9
     subst h9
     exact Tot.sm ok6
    | inr x =>
     obtain ⟨a7,f7,z7⟩:=x
     obtain ⟨e1,e2⟩:=h9
     simp only at e1 e2
     subst e1 e2
     simp only [cs_r]
     refine Tot.cnd (fun _=>Tot.sm ok6) (fun _=>Tot.gd (by decide) (Tot.cnd (fun _ => ?_) (fun _=>Tot.sm ok6)))
     exact Tot.bd (pickP _ h (by omega) (by omega)) fun v h=>Tot.sm (h.2.2.mono (by omega))
theorem FI.fd {k:Int} {f:FloFlow} (h:FI k f):FD f:=h.ok.fd
theorem FI.sn {k:Int} {f:FloFlow} (h:FI k f):snSm (cSnaps (fC f)):=smC_sn h.ok.ckp.sm
def fRuns (f:FloFlow) (l:List EvEvent):FloFlow:=l.foldl fStep f
theorem fRuns_FI {k:Int}:∀ (l:List EvEvent) (f:FloFlow),FI k f→k+l.length≤490→FI (k+l.length) (fRuns f l)∧(fRuns f l).1=f.1∧(fRuns f l).2.1=f.2.1:=by
 intro l
 induction l generalizing k with
 | nil=>intro f h _;exact ⟨h.mono (by simp),rfl,rfl⟩
 | cons e l ih =>
  intro f h hk
  simp only [List.length_cons] at hk
  obtain ⟨h1,h2,h3⟩:=fStep_ok h (by omega) e
  obtain ⟨i1,i2,i3⟩:=ih (fStep f e) h1 (by omega)
  refine ⟨?_,i2.trans h2,i3.trans h3⟩
  have e2:k+1+(l.length:Int)=k+((e::l).length:Int):=by simp only [List.length_cons];omega
  rw [← e2];exact i1
theorem l21Plays_t {r:l20Rd} {B k:Int} {f:FloFlow} (n:Int) (h:Ok B r) (hB:B≤40000) (hf:FI k f) (hn:n≤200) (hk:k+n≤400) (hk0:k≤400) :
  Tot (fun v=>Ok (B+2+20*200) v.2.2∧(v.1.length:Int)≤(if 0≤n then n else 0)∧v.2.1=fRuns f v.1) (s_l21Plays (r,f,n)):=by
 simp only [s_l21Plays]
 refine Tot.bd (pickP 4 h (by omega) (by omega)) fun v1 h1 => ?_
 refine Tot.bd (P:=fun v=>Ok (B+2+20*200) v.1∧(v.2.2.2.length:Int)≤(if 0≤n then n else 0)∧v.2.1=fRuns f v.2.2.2) ?_ fun v h=>Tot.sm h
 refine Tot.iter (fun s:l20Rd×FloFlow×FloFlow×List EvEvent×Int×Int=>s.2.1=fRuns f s.2.2.2.1∧(0≤s.2.2.2.2.2∧(s.2.2.2.1.length:Int)=s.2.2.2.2.2∧s.2.2.2.2.2≤(if 0≤n then n else 0))∧Ok (B+1+20*s.2.2.2.2.2) s.1∧(0≤s.2.2.2.2.1∧s.2.2.2.2.1≤22)) (fun s=>(n-s.2.2.2.2.2).toNat) (fun s hs' => ?_) ⟨rfl,⟨by simp,by simp,by simp only;split<;>omega⟩,h1.2.2.mono (by simp),by simp,by simp⟩
 obtain ⟨rd,g,z,out,st,i⟩:=s
 obtain ⟨hg,⟨i0,il,i1⟩,ho,⟨t0,t1⟩⟩:=hs'
 simp only at hg i0 il i1 ho t0 t1
 refine Tot.bd (P:=fun v=>v.1=rd∧v.2.1=g∧v.2.2.2.1=out∧(v.2.2.2.2=true→i<n)) (Tot.cnd (fun hc=>Tot.sm ⟨rfl,rfl,rfl,fun _=>by simpa using hc⟩) (fun _=>Tot.sm ⟨rfl,rfl,rfl,by simp⟩)) fun v3 h3 => ?_
 obtain ⟨rd3,g3,z3,out3,c3⟩:=v3
 obtain ⟨e1,e2,e3,e4⟩:=h3
 simp only at e1 e2 e3 e4
 subst e1 e2 e3
 refine Tot.cnd (fun hc => ?_) (fun _=>Tot.sm ⟨ho.mono (by split at i1<;>omega),by simp only;omega,hg⟩)
 have hin:=e4 hc
 have hFI:FI (k+out3.length) g3:=by
  rw [hg];exact (fRuns_FI out3 f hf (by omega)).1
 have hfd:=hFI.fd
 have hi200:i<200:=by omega
 simp only
 refine Tot.bd (l21Event_t ho (by omega) hfd) fun v4 h4 => ?_
 refine Tot.bd (P:=fun v=>Ok (B+1+20*i+20) v.1∧v.2.1=g3∧v.2.2.2.1=out3∧(0≤v.2.2.2.2.2∧v.2.2.2.2.2≤22)) ?_ fun v15 h15 => ?_
 ·refine Tot.cnd (fun hst => ?_) (fun _ => ?_)
  ·have hst:st<22:=by simpa using hst
   have w1:w6 (st+1)=st+1:=w6_id (by omega) (by omega)
   simp only [w1]
   exact Tot.bd (l21Story_t st h4 (by omega) hfd) fun v5 h5=>Tot.sm ⟨h5.mono (by omega),rfl,rfl,by simp only;omega,by simp only;omega⟩
  ·refine Tot.bd (P:=fun v=>Ok (B+1+20*i+4) v.1∧v.2.1=g3∧v.2.2.2.1=out3) ?_ fun v7 h7 => ?_
   ·refine Tot.cnd (fun _ => ?_) (fun _=>Tot.sm ⟨h4.mono (by omega),rfl,rfl⟩)
    exact Tot.bd (pickP 16 h4 (by omega) (by omega)) fun v h=>Tot.sm ⟨h.2.2.mono (by omega),rfl,rfl⟩
   ·obtain ⟨rd7,g7,z7,out7,e7,c7⟩:=v7
    obtain ⟨o7,a1,a2⟩:=h7
    simp only at o7 a1 a2
    subst a1 a2
    refine Tot.cnd (fun _ => ?_) (fun _ => ?_)
    ·exact Tot.bd (l21Story_t 0 o7 (by omega) hfd) fun v5 h5=>Tot.sm ⟨h5.mono (by omega),rfl,rfl,by simp,by simp⟩
    ·refine Tot.bd (P:=fun v=>Ok (B+1+20*i+5) v.1∧v.2.1=g7∧v.2.2.2.1=out7) ?_ fun v10 h10 => ?_
     ·refine Tot.cnd (fun _=>Tot.cnd (fun _ => ?_) (fun _=>Tot.sm ⟨o7.mono (by omega),rfl,rfl⟩)) (fun _=>Tot.sm ⟨o7.mono (by omega),rfl,rfl⟩)
      exact Tot.bd (pickP 20 o7 (by omega) (by omega)) fun v h=>Tot.sm ⟨h.2.2.mono (by omega),rfl,rfl⟩
     ·obtain ⟨rd10,g10,z10,out10,e10,c10⟩:=v10
      obtain ⟨o10,a1,a2⟩:=h10
      simp only at o10 a1 a2
      subst a1 a2
      refine Tot.cnd (fun _ => ?_) (fun _ => ?_)
      ·exact Tot.bd (l21Given_t i o10 (by omega) hfd) fun v5 h5=>Tot.sm ⟨h5.mono (by omega),rfl,rfl,by simp only;omega,by simp only;omega⟩
      ·refine Tot.bd (P:=fun v=>Ok (B+1+20*i+6) v.1∧v.2.1=g10∧v.2.2.2.1=out10) ?_ fun v13 h13 => ?_
       ·refine Tot.cnd (fun _ => ?_) (fun _=>Tot.sm ⟨o10.mono (by omega),rfl,rfl⟩)
        exact Tot.bd (pickP 5 o10 (by omega) (by omega)) fun v h=>Tot.sm ⟨h.2.2.mono (by omega),rfl,rfl⟩
       ·obtain ⟨rd13,g13,z13,out13,e13,c13⟩:=v13
        obtain ⟨o13,a1,a2⟩:=h13
        simp only at o13 a1 a2
        subst a1 a2
        refine Tot.cnd (fun _ => ?_) (fun _=>Tot.sm ⟨o13.mono (by omega),rfl,rfl,by simp only;omega,by simp only;omega⟩)
        exact Tot.bd (l21Lively_t o13 (by omega) hfd) fun v5 h5=>Tot.sm ⟨h5.mono (by omega),rfl,rfl,by simp only;omega,by simp only;omega⟩
 ·obtain ⟨rd15,g15,z15,out15,e15,st15⟩:=v15
  obtain ⟨o15,a1,a2,⟨b0,b1⟩⟩:=h15
  simp only at o15 a1 a2 b0 b1
  subst a1 a2
  refine Tot.gd (show (out15.length+[e15].length)*24≤140737488355328 by simp only [List.length_singleton];split at i1<;>omega) ?_
  have hst:=s_FloStep_ve g15 e15 hFI.sn
  simp only [hst,bd_s]
  refine Tot.sm ?_
  have w1:w6 (i+1)=i+1:=w6_id (by omega) (by omega)
  simp only [w1]
  refine ⟨⟨?_,⟨by simp only;omega,by simp only [List.length_append,List.length_singleton];omega,by simp only;split<;>omega⟩,o15.mono (by simp only;omega),b0,b1⟩,?_⟩
  ·simp only [fRuns,List.foldl_append,List.foldl_cons,List.foldl_nil]
   rw [hg];rfl
  ·show (n-(i+1)).toNat<(n-i).toNat
   omega
theorem l21Begin_t {r:l20Rd} {B:Int} (h:Ok B r) (hB:B≤40000):Tot (fun v=>FI 0 v.1∧(∃ j a,v.1=floNew j a∧jobOk j=true∧(a.length:Int)=j.1∧∀ l,l∈a→logOk l=true)∧Ok (B+1100) v.2) (s_l21Begin r):=by
 simp only [s_l21Begin]
 refine Tot.bd (l20Job_t h (by omega)) fun v1 h1 => ?_
 have hS:=job_S h1.1
 refine Tot.bd (l21Logs_t v1.1 h1.2 (by omega) (by omega) (by omega)) fun v2 h2 => ?_
 have hl:∀ l,l∈v2.1→logOk l=true:=fun l hl=>(h2.1.2 l hl).1
 have e1:s_FloNew_v (v1.1,v2.1)=some (floNew v1.1 v2.1):=s_FloNew_e ..
 simp only [e1,bd_s]
 have hb:((v2.1.length:Int)==v1.1.1)=true:=by simpa using h2.1.1
 have ha:(v2.1.any fun l => !logOk l)=false:=by
  rw [List.any_eq_false];intro l hl';simp [hl l hl']
 have e2:floNew v1.1 v2.1=flo0 v1.1 v2.1 v1.1.1.toNat v1.1.2.1.toNat:=by
  simp only [floNew,h1.1,hb,ha,Bool.not_false,Bool.and_self,if_true]
 refine Tot.sm ⟨?_,⟨_,_,rfl,h1.1,h2.1.1,hl⟩,h2.2.mono (by omega)⟩
 rw [e2]
 exact flo0_FI h1.1 h2.1.1 hl
theorem l21Flow_t {r:l20Rd} {B:Int} (h:Ok B r) (hB:B≤20000):Tot (fun v=>FI 70 v.1∧(∃ j a l,v.1=fRuns (floNew j a) l∧jobOk j=true∧(a.length:Int)=j.1∧(∀ l,l∈a→logOk l=true)∧l.length≤70)∧Ok (B+6000) v.2) (s_l21Flow r):=by
 simp only [s_l21Flow]
 refine Tot.bd (l21Begin_t h (by omega)) fun v1 h1 => ?_
 obtain ⟨h1,⟨j,a,e,hj,ha,hl⟩,ho⟩:=h1
 refine Tot.bd (pickP 70 ho (by omega) (by omega)) fun v2 h2 => ?_
 refine Tot.bd (pickP 5 h2.2.2 (by omega) (by omega)) fun v3 h3 => ?_
 refine Tot.bd (Tot.ixT h3.1 (by simpa using h3.2.1)) fun v4 h4 => ?_
 have b4:0≤v4∧v4≤70:=by simp only [List.mem_cons,List.not_mem_nil,or_false] at h4;omega
 clear h4
 refine Tot.bd (l21Plays_t v4 h3.2.2 (by omega) h1 (by omega) (by omega) (by omega)) fun v5 h5 => ?_
 obtain ⟨h5,h6,h7⟩:=h5
 have hlen:(v5.1.length:Int)≤70:=by split at h6<;>omega
 refine Tot.sm ⟨?_,⟨j,a,v5.1,by rw [h7,e],hj,ha,hl,by omega⟩,h5.mono (by omega)⟩
 rw [h7]
 exact (fRuns_FI v5.1 _ h1 (by omega)).1.mono (by omega)
theorem l20Win_t {r:l20Rd} {B:Int} (a:Int) (ha:1≤a) (h:Ok B r) (hB:B≤80000):Tot (fun v=>Ok (B+9) v.2) (s_l20Win (r,a)):=by
 simp only [s_l20Win]
 refine Tot.bd (pickP 40 h (by omega) (by omega)) fun v1 h1 => ?_
 refine Tot.bd (pickP 5 h1.2.2 (by omega) (by omega)) fun v2 h2 => ?_
 refine Tot.bd (Tot.ixT h2.1 (by simpa using h2.2.1)) fun v3 _ => ?_
 refine Tot.bd (pickP 4 h2.2.2 (by omega) (by omega)) fun v4 h4 => ?_
 refine Tot.bd (Tot.ixT h4.1 (by simpa using h4.2.1)) fun v5 _ => ?_
 refine Tot.bd (pickP a h4.2.2 (by omega) ha) fun v6 h6 => ?_
 refine Tot.bd (P:=fun v=>Ok (B+9) v.1) ?_ fun v h=>Tot.sm h
 refine Tot.cnd (fun _ => ?_) (fun _=>Tot.sm (h6.2.2.mono (by omega)))
 refine Tot.bd (pickP 2 h6.2.2 (by omega) (by omega)) fun v7 h7 => ?_
 refine Tot.cnd (fun _ => ?_) (fun _ => ?_)
 ·refine Tot.bd (pickP 3 h7.2.2 (by omega) (by omega)) fun v8 h8 => ?_
  exact Tot.bd (Tot.ixT h8.1 (by simpa using h8.2.1)) fun v9 _=>Tot.sm (h8.2.2.mono (by omega))
 ·refine Tot.bd (pickP 4 h7.2.2 (by omega) (by omega)) fun v8 h8 => ?_
  exact Tot.bd (Tot.ixT h8.1 (by simpa using h8.2.1)) fun v9 _=>Tot.sm (h8.2.2.mono (by omega))
theorem l20Agg_t {r:l20Rd} {B:Int} (a:Int) (ha:1≤a) (h:Ok B r) (hB:B≤80000):Tot (fun v=>Ok (B+12) v.2) (s_l20Agg (r,a)):=by
 simp only [s_l20Agg]
 refine Tot.bd (pickP 6 h (by omega) (by omega)) fun v1 h1 => ?_
 refine Tot.bd (P:=fun v=>Ok (B+7) v.1) ?_ fun v5 h5 => ?_
 ·refine Tot.iter (fun s:l20Rd×AggAgg×AggAgg×Int=>Ok (B+7-s.2.2.2) s.1∧(0≤s.2.2.2∧s.2.2.2≤5)) (fun s=>s.2.2.2.toNat) (fun s hs' => ?_) ⟨h1.2.2.mono (by simp only;omega),by simp only;omega,by simp only;omega⟩
  obtain ⟨rd,z,g,i⟩:=s
  obtain ⟨ho,i0,i1⟩:=hs'
  simp only at ho i0 i1
  refine Tot.cnd (fun hc => ?_) (fun hc=>Tot.sm (ho.mono (by omega)))
  have hc:i>0:=by simpa using hc
  refine Tot.bd (pickP 19 ho (by omega) (by omega)) fun v3 h3 => ?_
  simp only [s_AggAdd_e,bd_s]
  have w1:w6 (i-1)=i-1:=w6_id (by omega) (by omega)
  simp only [w1]
  refine Tot.sm ⟨⟨h3.2.2.mono (by simp only;omega),by simp only;omega,by simp only;omega⟩,?_⟩
  show (i-1).toNat<i.toNat
  omega
 ·refine Tot.bd (pickP a h5 (by omega) ha) fun v6 h6 => ?_
  refine Tot.cnd (fun _=>Tot.sm (h6.2.2.mono (by omega))) (fun _ => ?_)
  refine Tot.bd (pickP 6 h6.2.2 (by omega) (by omega)) fun v7 h7 => ?_
  refine Tot.bd (Tot.ixT h7.1 (by simpa using h7.2.1)) fun v8 _ => ?_
  refine Tot.bd (pickP 4 h7.2.2 (by omega) (by omega)) fun v9 h9 => ?_
  have ho:=h9.2.2.mono (C:=B+12) (by omega)
  refine Tot.bd (P:=fun v=>Ok (B+12) v.1) ?_ fun v h=>Tot.sm h
  exact Tot.cnd (fun _=>Tot.sm ho) (fun _=>Tot.cnd (fun _=>Tot.sm ho) (fun _=>Tot.cnd (fun _=>Tot.sm ho) (fun _=>Tot.sm ho)))
theorem upd_len {α:Type} (l:List α) (n:Nat) (x:α) (h:n<l.length):(l.take n++x::l.drop (n+1)).length=l.length:=by
 rw [upd_set _ h,List.length_set]
structure CD (f:FloFlow) (c:CkpState):Prop where
 s:c.2.2.1.length=f.2.2.1.length
 t:c.2.2.2.1.length=f.2.2.2.1.length
 p:c.2.2.2.2.1.length=f.2.2.2.1.length
 pp:∀ s,s∈c.2.2.2.2.1→s.1.2.length≤2000∧s.2.length≤2000
 a:c.2.2.2.2.2.2.1.length=f.2.2.1.length
 z:c.2.2.2.2.2.2.2.length=f.2.2.2.1.length
 zz:∀ s,s∈c.2.2.2.2.2.2.2→s.1.2.length≤2000∧s.2.length≤2000
theorem FI.cd {k:Int} {f:FloFlow} (h:FI k f):CD f (fC f):=by
 have hc:=h.ok.ckp
 have hS:=job_S hc.job
 have e1:=hc.srcl
 have e2:=hc.tskl
 have e3:=hc.snpl
 have e4:=hc.atl
 have e5:=hc.ssl
 have e6:((f.2.2.1.length:Nat):Int)=(fJ f).1:=h.ok.sl
 have e7:((f.2.2.2.1.length:Nat):Int)=(fJ f).2.1:=h.ok.tl
 refine ⟨by omega,by omega,by omega,?_,by omega,by omega,?_⟩
 ·intro s hs
  obtain ⟨i,hi,rfl⟩:=List.mem_iff_getElem.1 hs
  have:=pTsnap_sm hc.job (hc.snp i (by omega) hi)
  omega
 ·intro s hs
  have:=pSnap_sm (hc.ss s hs)
  omega
theorem CD.sm {f:FloFlow} {c:CkpState} (h:CD f c) (hf:FD f):smC c:=by
 have h1:=h.s
 have h2:=h.t
 have h3:=h.p
 have h4:=h.a
 have h5:=h.z
 have:=hf.s
 have:=hf.t
 exact ⟨by omega,by omega,by omega,fun s hs=>by have:=h.pp s hs;omega,by omega,by omega,fun s hs=>by have:=h.zz s hs;omega⟩
theorem fold_j {A B S:Type} (n:Nat) (g:S→Nat→S) (I:Nat→S→Prop) {f:A→Option (A⊕B)} (st:S→Int→A) (fin:S→B) (s0:S) (hI:I 0 s0) (h0:∀ s,I n s→f (st s n)=some (.inr (fin s))) (hs:∀ (s:S) (i:Nat) (h:i<n),I i s→I (i+1) (g s i)∧f (st s i)=some (.inl (st (g s i) ((i:Int)+1)))):iter f (st s0 0)=some (fin ((List.range n).foldl g s0))∧I n ((List.range n).foldl g s0):=by
 have key:∀ k i:Nat,i+k=n→∀ s,I i s→iter f (st s i)=some (fin ((List.range' i k).foldl g s))∧I n ((List.range' i k).foldl g s):=by
  intro k
  induction k with
  | zero =>
   intro i h s hI
   have e:i=n:=by omega
   subst e
   rw [it_u,h0 s hI]
   exact ⟨rfl,hI⟩
  | succ k ih =>
   intro i h s hI
   obtain ⟨h1,h2⟩:=hs s i (by omega) hI
   rw [it_u,h2,List.range'_succ,List.foldl_cons]
   simp only [bd_s,cs_l]
   exact ih (i+1) (by omega) _ h1
 have:=key n 0 (by omega) s0 hI
 rw [List.range_eq_range']
 exact this
def wt4:ItmItem→Int:=fun x=>if x.1==1 then 4 else 0
theorem wt4_w:Wt wt4 0:=⟨fun x=>by simp only [wt4];split<;>omega,by omega,fun x h=>by simp [wt4,h]⟩
theorem wt4_le (x:ItmItem):wt4 x≤4:=by simp only [wt4];split<;>omega
def DI (C:Int) (f:FloFlow):Prop:=FG wt4 (C-uns wt4 (fL f) (fS f)) f
theorem wsum4 (q:List ItmItem):wsum wt4 q≤wsum wt2 q+2*q.length:=by
 induction q with
 | nil=>simp [wsum]
 | cons x q ih =>
  have:=wt4_le x
  simp only [wsum,List.foldr_cons,wt2,List.length_cons] at ih ⊢
  omega
theorem qwt4 (l:List TskIn) (o:OpState×Int×TskTxn) (m:Nat) (h:∀ c,c∈l→c.1.length≤m):qwt wt4 (l,o)≤qwt wt2 (l,o)+2*(m*l.length):=by
 induction l with
 | nil=>simp [qwt]
 | cons c l ih =>
  have h1:=ih fun c hc=>h c (List.mem_cons_of_mem _ hc)
  have h2:=h c (List.mem_cons_self ..)
  have h3:=wsum4 c.1
  have e:(m:Int)*((l.length+1:Nat):Int)=m*l.length+m:=by
   have:((l.length+1:Nat):Int)=(l.length:Int)+1:=by omega
   rw [this,Int.mul_add,Int.mul_one]
  simp only [qwt,List.foldr_cons,List.length_cons] at h1 ⊢
  rw [e]
  omega
theorem wsum_len (q:List ItmItem):wsum wt4 q≤4*q.length:=by
 induction q with
 | nil=>simp [wsum]
 | cons x q ih=>have:=wt4_le x;simp only [wsum,List.foldr_cons,List.length_cons] at ih ⊢;omega
theorem uns_len:∀ (lg:List (List ItmItem)) (sr:List WinWin),(∀ l,l∈lg→l.length≤40)→uns wt4 lg sr≤160*lg.length
 | [],_,_=>by simp [uns]
 | _::_,[],_=>by simp only [uns,List.length_cons];omega
 | l::lg,s::sr,h=>by
  have:=uns_len lg sr fun l hl=>h l (List.mem_cons_of_mem _ hl)
  have h1:=h l (List.mem_cons_self ..)
  have h2:=wsum_len (l.drop s.1.toNat)
  simp only [List.length_drop] at h2
  simp only [uns,List.length_cons];omega
theorem FI.di {k:Int} {f:FloFlow} (h:FI k f):DI (2*k+504) f:=by
 obtain ⟨n1,n2,n3,n4,_,_⟩:=h.ok.lens
 have hu:=uns_len (fL f) (fS f) h.ok.log_sm
 have hun:=uns_nn wt4_w.nn (fL f) (fS f)
 refine ⟨h.ok,?_,fun i a b c=>(h.snp i a b c).mono (by omega),fun s hs=>(h.sfs s hs).mono (by omega),h.src⟩
 intro t ht
 have hti:=h.tsk t ht
 have hsm:=pTsk_sm (h.ok.tsk t ht).1
 refine ⟨hti.ok,hti.op.mono ?_,hti.wl,hti.qw⟩
 have hq:=qwt4 t.1 t.2 4 hsm.2.2.2.2
 have h3:=hsm.2.2.2.1
 have e:((4:Nat):Int)*(t.1.length:Int)≤12:=by omega
 have e2:qwt wt4 t≤qwt wt2 t+2*(((4:Nat):Int)*(t.1.length:Int)):=hq
 omega
theorem DI.ok {C:Int} {f:FloFlow} (h:DI C f):FloP f:=FG.ok h
structure DJ (C:Int) (j:JobJob) (lg:List (List ItmItem)) (f:FloFlow):Prop where
 di:DI C f
 job:f.1=j
 log:f.2.1=lg
theorem DJ.src {C:Int} {j:JobJob} {lg:List (List ItmItem)} {f:FloFlow} (h:DJ C j lg f) (i:Int):DJ C j lg (fSrc f i):=by
 have hu:=uns_src (b:=4) wt4_w.nn wt4_le h.di.ok i
 have hw:∀ N,wt4 (3,0,0,0,N)=0:=fun _=>rfl
 have:=src_ok (w:=wt4) (K:=C-uns wt4 (fL f) (fS f)) (K':=C-uns wt4 (fL f) (fS (fSrc f i))) (by omega) (fun N=>by rw [hw];omega) h.di i (by omega)
 obtain ⟨h1,h2,h3⟩:=this
 refine ⟨?_,h2.trans h.job,h3.trans h.log⟩
 have h3':fL (fSrc f i)=fL f:=h3
 unfold DI
 rw [h3']
 exact h1
theorem fTask_S (f:FloFlow) (i c:Int):(fTask f i c).2.2.1=f.2.2.1:=by
 simp only [fTask]
 split
 ·rfl
 ·split<;>rfl
theorem DJ.tsk {C:Int} (hC:C≤1000) {j:JobJob} {lg:List (List ItmItem)} {f:FloFlow} (h:DJ C j lg f) (i c:Int):DJ C j lg (fTask f i c):=by
 have hun:=uns_nn wt4_w.nn (fL f) (fS f)
 obtain ⟨h1,h2,h3⟩:=task_ok wt4_w h.di (by omega) i c
 refine ⟨?_,h2.trans h.job,h3.trans h.log⟩
 have h3':fL (fTask f i c)=fL f:=h3
 have h4':fS (fTask f i c)=fS f:=fTask_S f i c
 unfold DI
 rw [h3',h4']
 exact h1.mono (by omega)
theorem DJ.cmt {C:Int} {j:JobJob} {lg:List (List ItmItem)} {f:FloFlow} (h:DJ C j lg f) (i:Int):DJ C j lg (fCommit f i):=by
 obtain ⟨h1,h2,h3⟩:=commit_f h.di i
 refine ⟨?_,h2.trans h.job,h3.trans h.log⟩
 have h3':fL (fCommit f i)=fL f:=h3
 have h4':fS (fCommit f i)=fS f:=by
  simp only [fCommit];split<;>rfl
 unfold DI
 rw [h3',h4']
 exact h1
def rSrc (f:FloFlow):FloFlow:=(List.range (fS f).length).foldl (fun (g:FloFlow) (i:Nat)=>fSrc g i) f
def rTsk1 (n:Nat) (i:Nat) (f:FloFlow):FloFlow:=(List.range n).foldl (fun (g:FloFlow) (k:Nat)=>fTask g i k) f
def rTsk (f:FloFlow):FloFlow:=(List.range (fT f).length).foldl (fun (g:FloFlow) (i:Nat)=>rTsk1 (fS f).length i g) f
def rCkp (f:FloFlow):FloFlow:=(f.1,f.2.1,f.2.2.1,f.2.2.2.1,f.2.2.2.2.1,(pCkpSave f.1 (pCkpAsk f.1 (fC f))).1)
def rCmt (f:FloFlow):FloFlow:=(List.range (fT f).length).foldl (fun (g:FloFlow) (i:Nat)=>fCommit g i) f
def fRound (f:FloFlow):FloFlow:=rCmt (rCkp (rTsk (rSrc f)))
theorem DJ.ckp {C:Int} {j:JobJob} {lg:List (List ItmItem)} {f:FloFlow} (h:DJ C j lg f):DJ C j lg (rCkp f):=⟨save_ok (ask_ok h.di),h.job,h.log⟩
theorem DJ.lenS {C:Int} {j:JobJob} {lg:List (List ItmItem)} {f:FloFlow} (h:DJ C j lg f):f.2.2.1.length=j.1.toNat∧f.2.2.2.1.length=j.2.1.toNat∧f.2.2.2.2.1.length=j.2.1.toNat∧j.1.toNat≤3∧j.2.1.toNat≤2:=by
 have hS:=job_S h.di.ok.ckp.job
 have h1:=h.di.ok.sl
 have h2:=h.di.ok.tl
 have h3:=h.di.ok.kl
 simp only [fJ,fS,fT,fK,h.job] at hS h1 h2 h3
 refine ⟨?_,?_,?_,?_,?_⟩<;>omega
theorem s_src_d {C:Int} {j:JobJob} {lg:List (List ItmItem)} {f:FloFlow} (h:DJ C j lg f) (i:Int):s_l10Src (f,i)=some (fSrc f i):=by
 have:=s_l10Does_e f (1,i,0) h.di.ok
 simp only [s_l10Does,fDoes,beq_self_eq_true,cnd_t,if_true] at this
 cases e:s_l10Src (f,i) with
 | none=>rw [e] at this;simp at this
 | some g=>rw [e] at this;simp at this;rw [this]
theorem s_tsk_d {C:Int} {j:JobJob} {lg:List (List ItmItem)} {f:FloFlow} (h:DJ C j lg f) (i c:Int):s_l10Task (f,i,c)=some (fTask f i c):=by
 have:=s_l10Does_e f (2,i,c) h.di.ok
 have e1:((2:Int)==1)=false:=rfl
 simp only [s_l10Does,fDoes,beq_self_eq_true,cnd_t,cnd_f,if_true,e1,Bool.false_eq_true,if_false] at this
 cases e:s_l10Task (f,i,c) with
 | none=>rw [e] at this;simp at this
 | some g=>rw [e] at this;simp at this;rw [this]
theorem s_cmt_d {C:Int} {j:JobJob} {lg:List (List ItmItem)} {f:FloFlow} (h:DJ C j lg f) (i:Int):s_l10Commit (f,i)=some (fCommit f i):=by
 have:=s_l10Does_e f (6,i,0) h.di.ok
 have e1:((6:Int)==1)=false:=rfl
 have e2:((6:Int)==2)=false:=rfl
 have e3:((6:Int)==3)=false:=rfl
 have e4:((6:Int)==4)=false:=rfl
 have e5:((6:Int)==5)=false:=rfl
 simp only [s_l10Does,fDoes,beq_self_eq_true,cnd_t,cnd_f,if_true,e1,e2,e3,e4,e5,Bool.false_eq_true,if_false] at this
 cases e:s_l10Commit (f,i) with
 | none=>rw [e] at this;simp at this
 | some g=>rw [e] at this;simp at this;rw [this]
theorem s_l11Round_e {C:Int} (hC:C≤1000) {j:JobJob} {lg:List (List ItmItem)} {f:FloFlow} (h:DJ C j lg f):s_l11Round_v f=some (fRound f)∧DJ C j lg (fRound f):=by
 simp only [s_l11Round_v,fRound]
 have h1:=fold_j (A:=FloFlow×(FloFlow×Int)) (B:=FloFlow×FloFlow) (fS f).length (fun (g:FloFlow) (i:Nat)=>fSrc g i) (fun _ g=>DJ C j lg g) (f:=fun v1=>cnd (decide (v1.2.2<(v1.1.2.2.1.length:Int))) (bd (s_l10Src (v1.1,v1.2.2)) fun v2=>some (.inl (v2,v1.2.1,w6 (v1.2.2+1)))) (some (.inr (v1.1,v1.2.1)))) (fun g i=>(g,floZ,i)) (fun g=>(g,floZ)) f h (fun g hg=>by
   have a:=h.lenS.1
   have b:=hg.lenS.1
   have d:decide (((fS f).length:Int)<(g.2.2.1.length:Int))=false:=by simp only [fS,decide_eq_false_iff_not];omega
   simp only [d,cnd_f]) (fun g i hi hg=>by
   have a:=h.lenS.1
   have b:=hg.lenS.1
   have c:=hg.lenS.2.2.2.1
   have hi':i<g.2.2.1.length:=by simp only [fS] at hi;omega
   refine ⟨hg.src i,?_⟩
   simp only [lt_d hi',cnd_t,s_src_d hg,bd_s,w6_s hi' (show g.2.2.1.length<1000000000 by omega)])
 rw [h1.1]
 have d1:DJ C j lg (rSrc f):=h1.2
 have e1:(List.range (fS f).length).foldl (fun (g:FloFlow) (i:Nat)=>fSrc g i) f=rSrc f:=rfl
 rw [e1]
 simp only [bd_s]
 have h2:=fold_j (A:=FloFlow×(FloFlow×Int)) (B:=FloFlow×FloFlow) (fT (rSrc f)).length (fun (g:FloFlow) (i:Nat)=>rTsk1 (fS (rSrc f)).length i g) (fun _ g=>DJ C j lg g) (f:=fun v4=>cnd (decide (v4.2.2<(v4.1.2.2.2.1.length:Int))) (bd (iter (A:=FloFlow×(FloFlow×Int)) (B:=FloFlow×FloFlow) (fun v5=>cnd (decide (v5.2.2<(v5.1.2.2.1.length:Int))) (bd (s_l10Task (v5.1,v4.2.2,v5.2.2)) fun v6=>some (.inl (v6,v5.2.1,w6 (v5.2.2+1)))) (some (.inr (v5.1,v5.2.1)))) (v4.1,v4.2.1,0)) fun v7=>some (.inl (v7.1,v7.2,w6 (v4.2.2+1)))) (some (.inr (v4.1,v4.2.1)))) (fun g i=>(g,floZ,i)) (fun g=>(g,floZ)) (rSrc f) d1 (fun g hg=>by
   have a:=d1.lenS.2.1
   have b:=hg.lenS.2.1
   have d:decide (((fT (rSrc f)).length:Int)<(g.2.2.2.1.length:Int))=false:=by simp only [fT,decide_eq_false_iff_not];omega
   simp only [d,cnd_f]) (fun g i hi hg=>by
   have a:=d1.lenS.2.1
   have b:=hg.lenS.2.1
   have c:=hg.lenS.2.2.2.2
   have hi':i<g.2.2.2.1.length:=by simp only [fT] at hi;omega
   have h3:=fold_j (A:=FloFlow×(FloFlow×Int)) (B:=FloFlow×FloFlow) (fS (rSrc f)).length (fun (g:FloFlow) (k:Nat)=>fTask g i k) (fun _ g=>DJ C j lg g) (f:=fun v5=>cnd (decide (v5.2.2<(v5.1.2.2.1.length:Int))) (bd (s_l10Task (v5.1,(i:Int),v5.2.2)) fun v6=>some (.inl (v6,v5.2.1,w6 (v5.2.2+1)))) (some (.inr (v5.1,v5.2.1)))) (fun g i=>(g,floZ,i)) (fun g=>(g,floZ)) g hg (fun g' hg'=>by
     have a:=d1.lenS.1
     have b:=hg'.lenS.1
     have d:decide (((fS (rSrc f)).length:Int)<(g'.2.2.1.length:Int))=false:=by simp only [fS,decide_eq_false_iff_not];omega
     simp only [d,cnd_f]) (fun g' k hk hg'=>by
     have a:=d1.lenS.1
     have b:=hg'.lenS.1
     have c:=hg'.lenS.2.2.2.1
     have hk':k<g'.2.2.1.length:=by simp only [fS] at hk;omega
     refine ⟨hg'.tsk hC i k,?_⟩
     simp only [lt_d hk',cnd_t,s_tsk_d hg',bd_s,w6_s hk' (show g'.2.2.1.length<1000000000 by omega)])
   refine ⟨h3.2,?_⟩
   simp only [lt_d hi',cnd_t,w6_s hi' (show g.2.2.2.1.length<1000000000 by omega)]
   rw [h3.1]
   rfl)
 rw [h2.1]
 have d2:DJ C j lg (rTsk (rSrc f)):=h2.2
 have e2:(List.range (fT (rSrc f)).length).foldl (fun (g:FloFlow) (i:Nat)=>rTsk1 (fS (rSrc f)).length i g) (rSrc f)=rTsk (rSrc f):=rfl
 rw [e2]
 generalize rTsk (rSrc f)=f2 at *
 simp only [bd_s]
 have a3:=s_CkpAsk_e f2.1 (fC f2) d2.di.ok.ckp.sm
 have d2a:=ask_ok d2.di
 have a4:=s_CkpSave_e f2.1 (pCkpAsk f2.1 (fC f2)) d2a.ok.ckp.sm
 simp only [fC] at a3 a4
 simp only [a3,a4,bd_s]
 have d3:=d2.ckp
 have h5:=fold_j (A:=FloFlow×(FloFlow×Int)) (B:=FloFlow×FloFlow) (fT (rCkp f2)).length (fun (g:FloFlow) (i:Nat)=>fCommit g i) (fun _ g=>DJ C j lg g) (f:=fun v11=>cnd (decide (v11.2.2<(v11.1.2.2.2.1.length:Int))) (bd (s_l10Commit (v11.1,v11.2.2)) fun v2=>some (.inl (v2,v11.2.1,w6 (v11.2.2+1)))) (some (.inr (v11.1,v11.2.1)))) (fun g i=>(g,floZ,i)) (fun g=>(g,floZ)) (rCkp f2) d3 (fun g hg=>by
   have a:=d3.lenS.2.1
   have b:=hg.lenS.2.1
   have d:decide (((fT (rCkp f2)).length:Int)<(g.2.2.2.1.length:Int))=false:=by simp only [fT,decide_eq_false_iff_not];omega
   simp only [d,cnd_f]) (fun g i hi hg=>by
   have a:=d3.lenS.2.1
   have b:=hg.lenS.2.1
   have c:=hg.lenS.2.2.2.2
   have hi':i<g.2.2.2.1.length:=by simp only [fT] at hi;omega
   refine ⟨hg.cmt i,?_⟩
   simp only [lt_d hi',cnd_t,s_cmt_d hg,bd_s,w6_s hi' (show g.2.2.2.1.length<1000000000 by omega)])
 have e5:((f2.1,f2.2.1,f2.2.2.1,f2.2.2.2.1,f2.2.2.2.2.1,(pCkpSave f2.1 (pCkpAsk f2.1 f2.2.2.2.2.2)).1):FloFlow)=rCkp f2:=rfl
 rw [e5,h5.1]
 exact ⟨rfl,h5.2⟩
def doneS (f:FloFlow) (i:Nat):Bool :=
 match (fS f)[i]?,(fL f)[i]?,(cSafe (fC f)).2.1[i]? with
 | some s,some l,some a => !decide (s.1<(l.length:Int)) && !decide (a<(l.length:Int))
 | _,_,_=>false
def emptyC (c:TskIn):Bool := !decide ((c.1.length:Int)>0)
def doneT (f:FloFlow) (i:Nat):Bool :=
 match (fT f)[i]?,(fK f)[i]?,(cSafe (fC f)).2.2[i]? with
 | some t,some k,some s=>t.2.1.1==1000 && !decide (((t.2.2.2.2.1.length:Int)+t.2.2.2.2.2.length+k.1.length)>0)&&s.1.1==1000&&t.1.all emptyC
 | _,_,_=>false
def fDone (f:FloFlow):Bool := !(fC f).2.1&&(List.range (fS f).length).all (doneS f)&&(List.range (fT f).length).all (doneT f)
theorem s_l11Done_e (f:FloFlow) (h:FloP f):s_l11Done f=some (fDone f):=by
 obtain ⟨n1,n2,n3,n4,_,_⟩:=h.lens
 have hal:(((cSafe (fC f)).2.1.length:Nat):Int)=(fJ f).1:=h.ckp.atl
 have hzl:(((cSafe (fC f)).2.2.length:Nat):Int)=(fJ f).2.1:=h.ckp.ssl
 have hsl:=h.sl
 have htl:=h.tl
 have hks:=h.snk_sm
 have hts:∀ t,t∈fT f→t.2.2.2.2.1.length≤1500∧t.2.2.2.2.2.length≤1500∧t.1.length≤3:=fun t ht=>by
  have:=pTsk_sm (h.tsk t ht).1;omega
 obtain ⟨j,lg,sr,tk,sk,c1,c2,c3,c4,c5,c6,c7,c8⟩:=f
 simp only [fC,cSafe,fJ,fS,fT,fK,fL] at hal hzl hsl htl hks hts n1 n2 n3 n4
 simp only [s_l11Done,fDone,fC,fS,fT]
 cases c2
 rotate_left
 ·rfl
 simp only [cnd_f,Bool.not_false,Bool.true_and]
 rw [all_f (A:=FloFlow×Int) (C:=FloFlow) (fun i=>((j,lg,sr,tk,sk,c1,false,c3,c4,c5,c6,c7,c8),i)) sr.length (c:=(j,lg,sr,tk,sk,c1,false,c3,c4,c5,c6,c7,c8)) (doneS (j,lg,sr,tk,sk,c1,false,c3,c4,c5,c6,c7,c8)) (by simp) (fun i hi=>by
  have h2:i<lg.length:=by omega
  have h3:i<c7.length:=by omega
  simp only [lt_d hi,ix_t hi,ix_t h2,ix_t h3,w6_s hi (show sr.length<1000000000 by omega),bd_s,bd_cnd,cnd_t,doneS,fS,fL,fC,cSafe,List.getElem?_eq_getElem hi,List.getElem?_eq_getElem h2,List.getElem?_eq_getElem h3]
  rcases Bool.eq_false_or_eq_true (decide (sr[i].1<(lg[i].length:Int))) with b1|b1<;>rcases Bool.eq_false_or_eq_true (decide (c7[i]<(lg[i].length:Int))) with b2|b2 <;>
   simp only [b1,b2,cnd_t,cnd_f,Bool.not_true,Bool.not_false,Bool.true_and,Bool.false_and,Bool.and_false,Bool.and_self,if_true,if_false,Bool.false_eq_true])]
 cases (List.range sr.length).all (doneS (j,lg,sr,tk,sk,c1,false,c3,c4,c5,c6,c7,c8))
 ·rfl
 simp only [if_true,bd_s,cs_r,Bool.true_and]
 rw [all_f (A:=FloFlow×Int) (C:=PUnit) (fun i=>((j,lg,sr,tk,sk,c1,false,c3,c4,c5,c6,c7,c8),i)) tk.length (c:=()) (doneT (j,lg,sr,tk,sk,c1,false,c3,c4,c5,c6,c7,c8)) (by simp) (fun i hi=>by
  have h2:i<sk.length:=by omega
  have h3:i<c8.length:=by omega
  have t1:=hts _ (List.getElem_mem hi)
  have k1:=hks _ (List.getElem_mem h2)
  have w1:w6 ((tk[i].2.2.2.2.1.length:Int)+tk[i].2.2.2.2.2.length)=(tk[i].2.2.2.2.1.length:Int)+tk[i].2.2.2.2.2.length:=w6_id (by omega) (by omega)
  have w2:w6 ((tk[i].2.2.2.2.1.length:Int)+tk[i].2.2.2.2.2.length+sk[i].1.length)=(tk[i].2.2.2.2.1.length:Int)+tk[i].2.2.2.2.2.length+sk[i].1.length:=w6_id (by omega) (by omega)
  have he:=each_f (A:=FloFlow×(TskTask×Int)) (C:=FloFlow) tk[i].1 emptyC (f:=fun v15=>cnd (decide (v15.2.2<(v15.2.1.1.length:Int))) (bd (ix v15.2.1.1 v15.2.2) fun v16=>cnd (decide ((v16.1.length:Int)>0)) (some (.inr (.inl false))) (some (.inl (v15.1,v15.2.1,w6 (v15.2.2+1))))) (some (.inr (.inr v15.1)))) (fun k=>((j,lg,sr,tk,sk,c1,false,c3,c4,c5,c6,c7,c8),tk[i],k)) (j,lg,sr,tk,sk,c1,false,c3,c4,c5,c6,c7,c8) (by omega) (by simp) (fun k hk=>by
   simp only [lt_d hk,ix_t hk,w6_s hk (show tk[i].1.length<1000000000 by omega),bd_s,cnd_t,emptyC]
   rcases Bool.eq_false_or_eq_true (decide ((tk[i].1[k].1.length:Int)>0)) with b|b<;>simp only [b,cnd_t,cnd_f,Bool.not_true,Bool.not_false,if_true,if_false,Bool.false_eq_true])
  simp only [lt_d hi,ix_t hi,ix_t h2,ix_t h3,w6_s hi (show tk.length<1000000000 by omega),bd_s,cnd_t,doneT,fT,fK,fC,cSafe,List.getElem?_eq_getElem hi,List.getElem?_eq_getElem h2,List.getElem?_eq_getElem h3,w1,w2,bne_b]
  rcases Bool.eq_false_or_eq_true (tk[i].2.1.1==(1000:Int)) with b1|b1
  rotate_left
  ·simp only [b1,Bool.not_false,cnd_t,bd_s,cs_l,Bool.false_and,Bool.false_eq_true,if_false]
  rcases Bool.eq_false_or_eq_true (decide ((tk[i].2.2.2.2.1.length:Int)+tk[i].2.2.2.2.2.length+sk[i].1.length>0)) with b2|b2
  ·simp only [b1,b2,Bool.not_true,Bool.not_false,cnd_t,cnd_f,bd_s,cs_l,Bool.false_and,Bool.and_false,Bool.false_eq_true,if_false]
  rcases Bool.eq_false_or_eq_true (c8[i].1.1==(1000:Int)) with b3|b3
  rotate_left
  ·simp only [b1,b2,b3,Bool.not_true,Bool.not_false,cnd_t,cnd_f,bd_s,cs_l,Bool.false_and,Bool.and_false,Bool.false_eq_true,if_false]
  simp only [b1,b2,b3,Bool.not_true,Bool.not_false,cnd_t,cnd_f,bd_s,Bool.true_and,Bool.and_self]
  rw [he]
  cases tk[i].1.all emptyC<;>rfl)]
 cases (List.range tk.length).all (doneT (j,lg,sr,tk,sk,c1,false,c3,c4,c5,c6,c7,c8))<;>rfl
def drainN:Nat→FloFlow→FloFlow
 | 0,f=>f
 | n+1,f=>if fDone f then f else drainN n (fRound f)
def fDrain (f:FloFlow) (n:Int):FloFlow:=if !pFlo f||decide (n>400) then floZ else drainN n.toNat f
theorem drain_it {C:Int} (hC:C≤1000) {j:JobJob} {lg:List (List ItmItem)} (f0:FloFlow) (n:Int) (hn:n≤400):∀ (k:Nat) (f:FloFlow) (i:Int),DJ C j lg f→0≤i→(n-i).toNat=k→iter (A:=FloFlow×(FloFlow×Int)) (B:=FloFlow×FloFlow) (fun v4=>bd (α:=FloFlow×(FloFlow×Bool)) (cnd (decide (v4.2.2<n)) (bd (s_l11Done v4.2.1) fun v5=>some (v4.1,v4.2.1,!v5)) (some (v4.1,v4.2.1,false))) fun v6=>cnd v6.2.2 (bd (s_l11Round_v v6.2.1) fun v7=>bd (s_l10Copy v7) fun v8=>some (.inl (v6.1,v8,w6 (v4.2.2+1)))) (some (.inr (v6.1,v6.2.1)))) (f0,f,i)=some (f0,drainN k f)∧DJ C j lg (drainN k f):=by
 intro k
 induction k with
 | zero =>
  intro f i hf hi hk
  have d:decide (i<n)=false:=by simp only [decide_eq_false_iff_not];omega
  rw [it_u]
  simp only [d,cnd_f,bd_s,cs_r]
  exact ⟨rfl,hf⟩
 | succ k ih =>
  intro f i hf hi hk
  have d:decide (i<n)=true:=by simp only [decide_eq_true_eq];omega
  have w1:w6 (i+1)=i+1:=w6_id (by omega) (by omega)
  rw [it_u]
  simp only [d,cnd_t,bd_s,s_l11Done_e f hf.di.ok,drainN]
  cases fDone f
  ·obtain ⟨r1,r2⟩:=s_l11Round_e hC hf
   simp only [Bool.not_false,cnd_t,r1,bd_s,s_l10Copy_e _ r2.di.ok,cs_l,w1,Bool.false_eq_true,if_false]
   exact ih (fRound f) (i+1) r2 (by omega) (by omega)
  ·simp only [Bool.not_true,cnd_f,bd_s,cs_r,if_true]
   exact ⟨by trivial,hf⟩
theorem s_FloDrain_e {C:Int} (hC:C≤1000) {f:FloFlow} (h:DI C f) (hb:snSm (cSnaps (fC f))) (n:Int):s_FloDrain (f,n)=some (fDrain f n)∧(n≤400→DI C (fDrain f n)∧(fDrain f n).1=f.1∧(fDrain f n).2.1=f.2.1):=by
 have hp:pFlo f=true:=(pFlo_iff f).2 h.ok
 simp only [s_FloDrain,s_FloOk_e f hb,bd_s,hp,Bool.not_true,cnd_f,fDrain,Bool.false_or]
 rcases Bool.eq_false_or_eq_true (decide (n>400)) with b|b
 ·simp only [b,bd_s,cnd_t,if_true]
  refine ⟨by trivial,fun hn => ?_⟩
  simp only [decide_eq_true_eq] at b
  omega
 ·have hn:n≤400:=by simp only [decide_eq_false_iff_not] at b;omega
  have hd:=drain_it hC floZ n hn n.toNat f 0 ⟨h,rfl,rfl⟩ (by omega) (by omega)
  simp only [b,cnd_f,s_l10Copy_e f h.ok,bd_s,Bool.false_eq_true,if_false]
  rw [hd.1]
  exact ⟨rfl,fun _=>⟨hd.2.di,hd.2.job,hd.2.log⟩⟩
def fPanes (f:FloFlow):List PanPane:=if !pFlo f then [] else (fK f).foldl (fun o s=>o++s.2.2.1) []
theorem s_FloPanes_e {f:FloFlow} (hb:snSm (cSnaps (fC f))):s_FloPanes f=some (fPanes f)∧(fPanes f).length≤3000:=by
 simp only [s_FloPanes,s_FloOk_e f hb,bd_s,fPanes]
 cases hp:pFlo f
 ·exact ⟨by rfl,by simp⟩
 have h:=(pFlo_iff f).1 hp
 obtain ⟨n1,n2,n3,n4,_,_⟩:=h.lens
 have hk:∀ s,s∈fK f→s.2.2.1.length≤1500:=fun s hs=>((pSink_iff s).1 (h.snk s hs)).pp.1
 have hlen:∀ (l:List FloSink) (o:List PanPane),(∀ s,s∈l→s.2.2.1.length≤1500)→(l.foldl (fun o s=>o++s.2.2.1) o).length≤o.length+1500*l.length:=by
  intro l
  induction l with
  | nil=>intro o _;simp
  | cons s l ih =>
   intro o hs
   have h1:=ih (o++s.2.2.1) fun x hx=>hs x (List.mem_cons_of_mem _ hx)
   have h2:=hs s (List.mem_cons_self ..)
   simp only [List.foldl_cons,List.length_cons,List.length_append] at h1 ⊢
   omega
 simp only [Bool.not_true,cnd_f,Bool.false_eq_true,if_false]
 rw [fold_i (A:=FloFlow×(List PanPane×Int)) (B:=List PanPane) f.2.2.2.2.1 (fun (o:List PanPane) s=>o++s.2.2.1) (fun i o=>o.length≤1500*i) (fun o i=>(f,o,i)) (fun o=>o) [] (by simp) (fun o=>by simp) (fun o i hi hI=>by
  have:=hk _ (List.getElem_mem hi)
  have hi2:i<2:=by simp only [fK] at n4 n3;omega
  refine ⟨by simp only [List.length_append];omega,?_⟩
  have g1:(o.length+f.2.2.2.2.1[i].2.2.1.length)*72≤140737488355328:=by omega
  simp only [lt_d hi,ix_t hi,w6_s hi (show f.2.2.2.2.1.length<1000000000 by simp only [fK] at n4;omega),bd_s,cnd_t,gd_t g1])]
 refine ⟨rfl,?_⟩
 have:=hlen (fK f) [] hk
 simp only [List.length_nil] at this
 omega
def pSame (k:Int) (w:WinWin) (p:PanPane):Bool:=p.1==k&&(p.2.1.1==w.1&&p.2.1.2==w.2)
def panOf (l:List PanPane) (k:Int) (w:WinWin):List PanPane:=l.filter (pSame k w)
def isGone (p:PanPane):Bool:=p.2.2.2.1==3
theorem i_PanOf_e (l:List PanPane) (k:Int) (w:WinWin) (h:l.length<1000000):i_PanOf (l,k,w)=some (panOf l k w):=by
 simp only [i_PanOf]
 rw [fold_i (A:=WinWin×(List PanPane×Int)) (B:=List PanPane) l (fun (o:List PanPane) p=>if pSame k w p then o++[p] else o) (fun i o=>o.length≤i) (fun o i=>(w,o,i)) (fun o=>o) [] (by simp) (fun o=>by simp) (fun o i hi hI=>by
  refine ⟨len_if (len_1 hI) (by omega),?_⟩
  have g1:(o.length+1)*72≤140737488355328:=by omega
  rcases Bool.eq_false_or_eq_true (l[i].1==k) with b1|b1<;>rcases Bool.eq_false_or_eq_true (l[i].2.1.1==w.1&&l[i].2.1.2==w.2) with b2|b2 <;>
   simp only [lt_d hi,ix_t hi,w6_s hi (show l.length<1000000000 by omega),bd_s,cnd_t,cnd_f,List.length_singleton,gd_t g1,b1,b2,pSame,Bool.and_true,Bool.and_false,Bool.true_and,Bool.false_and,if_true,if_false,Bool.false_eq_true])]
 rw [fold_filter]
 rfl
def pAtS (l:List PanPane) (i:Nat):Bool :=
 match l[i]? with
 | some p=>pPan p&&p.2.2.1==((panOf (l.take i) p.1 p.2.1).length:Int) && !(panOf (l.take i) p.1 p.2.1).any isGone
 | none=>true
def pSound (l:List PanPane):Bool:=(List.range l.length).all (pAtS l)
theorem i_PanSound_e (l:List PanPane) (h:l.length<1000000):i_PanSound l=some (pSound l):=by
 simp only [i_PanSound]
 rw [all_f (A:=Int) (C:=PUnit) (fun i=>i) l.length (c:=()) (pAtS l) (by simp) (fun i hi=>by
  have hof:i_PanOf (l.take i,l[i].1,l[i].2.1)=some (panOf (l.take i) l[i].1 l[i].2.1):=i_PanOf_e _ _ _ (by simp;omega)
  have hle:(panOf (l.take i) l[i].1 l[i].2.1).length≤i:=by
   have h1:=List.length_filter_le (pSame l[i].1 l[i].2.1) (l.take i)
   have h2:(l.take i).length=i:=by simp;omega
   simp only [panOf];omega
  have hcf:=cF_PanPane (panOf (l.take i) l[i].1 l[i].2.1) i_PanSound__1 isGone (fun _ _=>rfl) (by omega)
  have g1:(0:Int)≤(i:Int):=by omega
  have g2:0≤i∧i≤l.length:=by omega
  simp only [lt_d hi,ix_t hi,w6_s hi (show l.length<1000000000 by omega),bd_s,cnd_t,gd_t g1,Int.toNat_natCast,gd_t g2,List.drop_zero,Nat.sub_zero,hof,i_PanOk_e,bne_b,cl_e,hcf,pAtS,List.getElem?_eq_getElem hi]
  rcases Bool.eq_false_or_eq_true (pPan l[i]) with b1|b1
  rotate_left
  ·simp only [b1,Bool.not_false,cnd_t,bd_s,Bool.false_and,Bool.false_eq_true,if_false]
  rcases Bool.eq_false_or_eq_true (l[i].2.2.1==((panOf (l.take i) l[i].1 l[i].2.1).length:Int)) with b2|b2
  rotate_left
  ·simp only [b1,b2,Bool.not_true,Bool.not_false,cnd_t,cnd_f,bd_s,Bool.true_and,Bool.false_and,Bool.false_eq_true,if_false]
  rcases Bool.eq_false_or_eq_true ((panOf (l.take i) l[i].1 l[i].2.1).any isGone) with b3|b3 <;>
   simp only [b1,b2,b3,Bool.not_true,Bool.not_false,cnd_t,cnd_f,bd_s,Bool.true_and,Bool.and_self,Bool.and_false,Bool.false_eq_true,if_false,if_true])]
 simp only [pSound]
 cases (List.range l.length).all (pAtS l)<;>rfl
theorem fold_cnt (q:PanPane→Bool):∀ (l:List PanPane) (n:Int) (g:Bool),l.foldl (fun (a:Int×Bool) p=>if q p then (a.1+1,a.2||isGone p) else a) (n,g)=(n+((l.filter q).length:Int),g||(l.filter q).any isGone):=by
 intro l
 induction l with
 | nil=>intro n g;simp
 | cons p l ih =>
  intro n g
  rw [List.foldl_cons]
  cases h:q p
  ·simp only [Bool.false_eq_true,if_false]
   rw [ih];simp [h]
  ·simp only [if_true]
   rw [ih];simp [h,Bool.or_assoc];omega
theorem s_PanSound_e (l:List PanPane) (h:l.length<1000000):s_PanSound l=some (pSound l):=by
 simp only [s_PanSound]
 rw [all_f (A:=Int) (C:=PUnit) (fun i=>i) l.length (c:=()) (pAtS l) (by simp) (fun i hi=>by
  have hlen:(l.take i).length=i:=by simp;omega
  simp only [lt_d hi,ix_t hi,w6_s hi (show l.length<1000000000 by omega),bd_s,cnd_t,s_PanOk_e,pAtS,List.getElem?_eq_getElem hi]
  rcases Bool.eq_false_or_eq_true (pPan l[i]) with b1|b1
  rotate_left
  ·simp only [b1,Bool.not_false,cnd_t,bd_s,cs_l,Bool.false_and,Bool.false_eq_true,if_false]
  simp only [b1,Bool.not_true,cnd_f]
  rw [fold_i (S:=Int×Bool) (A:=Int×(Bool×Int)) (B:=Int×Bool) (l.take i) (fun a p=>if pSame l[i].1 l[i].2.1 p then (a.1+1,a.2||isGone p) else a) (fun k a=>0≤a.1∧a.1≤(k:Int)) (fun a k=>(a.1,a.2,k)) (fun a=>a) (0,false) (by simp) (fun a=>by simp [hlen]) (fun a k hk hI=>by
   have hki:k<i:=by omega
   have hkl:k<l.length:=by omega
   have e:(l.take i)[k]=l[k]:=List.getElem_take
   have w1:w6 (a.1+1)=a.1+1:=w6_id (by omega) (by omega)
   rw [e]
   refine ⟨?_,?_⟩
   ·split
    ·exact ⟨by show (0:Int)≤a.1+1;omega,by show a.1+1≤((k+1:Nat):Int);omega⟩
    ·exact ⟨hI.1,by have:=hI.2;omega⟩
   simp only [lt_d hki,ix_t hkl,w6_s hki (show i<1000000000 by omega),bd_s,cnd_t,w1]
   rcases Bool.eq_false_or_eq_true (l[k].1==l[i].1) with c1|c1<;>rcases Bool.eq_false_or_eq_true (l[k].2.1.1==l[i].2.1.1&&l[k].2.1.2==l[i].2.1.2) with c2|c2<;>rcases Bool.eq_false_or_eq_true a.2 with c3|c3 <;>
    simp only [c1,c2,c3,pSame,isGone,cnd_t,cnd_f,bd_s,Bool.and_true,Bool.and_false,Bool.true_and,Bool.false_and,Bool.true_or,Bool.false_or,if_true,if_false,Bool.false_eq_true])]
  rw [fold_cnt]
  simp only [bd_s,Int.zero_add,Bool.false_or,bne_b,Bool.true_and]
  have e2:(l.take i).filter (pSame l[i].1 l[i].2.1)=panOf (l.take i) l[i].1 l[i].2.1:=rfl
  rw [e2]
  rcases Bool.eq_false_or_eq_true (l[i].2.2.1==((panOf (l.take i) l[i].1 l[i].2.1).length:Int)) with b2|b2<;>rcases Bool.eq_false_or_eq_true ((panOf (l.take i) l[i].1 l[i].2.1).any isGone) with b3|b3 <;>
   simp only [b2,b3,Bool.not_true,Bool.not_false,cnd_t,cnd_f,bd_s,cs_l,cs_r,Bool.true_and,Bool.false_and,Bool.and_self,Bool.and_false,Bool.false_eq_true,if_false,if_true])]
 simp only [pSound]
 cases (List.range l.length).all (pAtS l)<;>rfl
def chkP (c:List PanPane) (k:Nat):Bool :=
 match c[k]? with
 | some p=>pPan p&&p.2.2.1==(k:Int)&&(((k:Int)==0)==(p.2.2.2.1==1))&&(((k:Int)+1==(c.length:Int)) || !(p.2.2.2.1==3))
 | none=>true
def clsP (l:List PanPane) (i:Nat):Bool :=
 match l[i]? with
 | some p=>(List.range (panOf l p.1 p.2.1).length).all (chkP (panOf l p.1 p.2.1))
 | none=>true
theorem filt_at {α:Type} (q:α→Bool):∀ (l:List α) (i:Nat) (h:i<l.length),q l[i]=true→(l.filter q)[((l.take i).filter q).length]? = some l[i]∧(l.filter q).take ((l.take i).filter q).length=(l.take i).filter q:=by
 intro l i h hq
 have e:l=l.take i++l[i]::l.drop (i+1):=by rw [← List.drop_eq_getElem_cons h,List.take_append_drop]
 have e2:l.filter q=(l.take i).filter q++l[i]::(l.drop (i+1)).filter q:=by
  conv=>lhs;rw [e]
  rw [List.filter_append,List.filter_cons_of_pos hq]
 constructor
 ·rw [e2,List.getElem?_append_right (Nat.le_refl _)];simp
 ·rw [e2,List.take_left]
theorem filt_ex {α:Type} (q:α→Bool):∀ (l:List α) (k:Nat) (h:k<(l.filter q).length),∃ (i:Nat) (hi:i<l.length),l[i]=(l.filter q)[k]∧(l.take i).filter q=(l.filter q).take k
 | [],k,h=>by simp at h
 | x::l,k,h=>by
  cases hx:q x
  ·have e:(x::l).filter q=l.filter q:=by simp [hx]
   have hk:k<(l.filter q).length:=by rw [e] at h;exact h
   obtain ⟨i,hi,h1,h2⟩:=filt_ex q l k hk
   refine ⟨i+1,by simp;exact hi,?_,?_⟩
   ·simp only [List.getElem_cons_succ,e];exact h1
   ·simp only [List.take_succ_cons,e];rw [List.filter_cons_of_neg (by simp [hx])];exact h2
  ·have e:(x::l).filter q=x::l.filter q:=by simp [hx]
   cases k with
   | zero=>exact ⟨0,by simp,by simp [e],by simp⟩
   | succ k =>
    have hk:k<(l.filter q).length:=by rw [e] at h;simpa using h
    obtain ⟨i,hi,h1,h2⟩:=filt_ex q l k hk
    refine ⟨i+1,by simp;exact hi,?_,?_⟩
    ·simp only [List.getElem_cons_succ,e];exact h1
    ·simp only [List.take_succ_cons,e];rw [List.filter_cons_of_pos hx,h2]
theorem same_eq {k:Int} {w:WinWin} {p:PanPane} (h:pSame k w p=true):pSame p.1 p.2.1=pSame k w:=by
 simp only [pSame,Bool.and_eq_true,beq_iff_eq] at h
 obtain ⟨h1,h2,h3⟩:=h
 funext q
 simp only [pSame,h1,h2,h3]
theorem same_self (p:PanPane):pSame p.1 p.2.1 p=true:=by simp [pSame]
theorem pan_kind {p:PanPane} (h:pPan p=true):(p.2.2.1==(0:Int))=(p.2.2.2.1==1):=by
 simp only [pPan,Bool.and_eq_true] at h
 have h2:=h.2
 by_cases k1:p.2.2.2.1=1
 ·simp only [k1,beq_self_eq_true,if_true,Bool.and_eq_true] at h2 ⊢
  exact h2.1
 ·have k1':(p.2.2.2.1==(1:Int))=false:=by simpa using k1
  rw [k1']
  simp only [k1',Bool.false_eq_true,if_false] at h2
  have:p.2.2.1>0:=by
   split at h2
   ·simp only [Bool.and_eq_true,decide_eq_true_eq] at h2;exact h2.1
   ·split at h2
    ·simp only [Bool.and_eq_true,decide_eq_true_eq] at h2;exact h2.1
    ·cases h2
  simp only [beq_eq_false_iff_ne];omega
theorem sound_cls (l:List PanPane):pSound l=(List.range l.length).all (clsP l):=by
 rw [Bool.eq_iff_iff]
 simp only [pSound,List.all_eq_true,List.mem_range]
 constructor
 ·intro h i hi
  simp only [clsP,List.getElem?_eq_getElem hi,List.all_eq_true,List.mem_range]
  intro k hk
  have key:∀ (k:Nat) (hk:k<(panOf l l[i].1 l[i].2.1).length),pPan (panOf l l[i].1 l[i].2.1)[k]=true∧(panOf l l[i].1 l[i].2.1)[k].2.2.1=k∧((panOf l l[i].1 l[i].2.1).take k).any isGone=false:=by
   intro k hk
   obtain ⟨m,hm,e1,e2⟩:=filt_ex (pSame l[i].1 l[i].2.1) l k hk
   have hq:pSame l[i].1 l[i].2.1 (panOf l l[i].1 l[i].2.1)[k]=true:=(List.mem_filter.1 (List.getElem_mem hk)).2
   have:=h m hm
   have e1':l[m]=(panOf l l[i].1 l[i].2.1)[k]:=e1
   have e2':(l.take m).filter (pSame l[i].1 l[i].2.1)=(panOf l l[i].1 l[i].2.1).take k:=e2
   simp only [pAtS,List.getElem?_eq_getElem hm,Bool.and_eq_true,beq_iff_eq,Bool.not_eq_true',e1',panOf] at this
   simp only [panOf] at hq e2' ⊢
   rw [same_eq hq,e2'] at this
   obtain ⟨⟨a,b⟩,c⟩:=this
   refine ⟨a,?_,c⟩
   rw [b,List.length_take]
   simp only [panOf] at hk
   omega
  obtain ⟨a,b,c⟩:=key k hk
  have hkd:=pan_kind a
  simp only [chkP,List.getElem?_eq_getElem hk,Bool.and_eq_true,Bool.or_eq_true,beq_iff_eq,Bool.not_eq_true']
  refine ⟨⟨⟨a,b⟩,?_⟩,?_⟩
  ·rw [← hkd,b]
  ·by_cases hl:(k:Int)+1=((panOf l l[i].1 l[i].2.1).length:Int)
   ·exact .inl hl
   ·right
    have hk1:k+1<(panOf l l[i].1 l[i].2.1).length:=by omega
    obtain ⟨_,_,c1⟩:=key (k+1) hk1
    rw [List.any_eq_false] at c1
    have hm:(panOf l l[i].1 l[i].2.1)[k]∈(panOf l l[i].1 l[i].2.1).take (k+1):=by
     rw [List.mem_take_iff_getElem];exact ⟨k,by omega,rfl⟩
    have:=c1 _ hm
    simpa [isGone] using this
 ·intro h i hi
  have hc:=h i hi
  obtain ⟨f1,f2⟩:=filt_at (pSame l[i].1 l[i].2.1) l i hi (same_self _)
  simp only [clsP,List.getElem?_eq_getElem hi,List.all_eq_true,List.mem_range] at hc
  have f1':(panOf l l[i].1 l[i].2.1)[(panOf (l.take i) l[i].1 l[i].2.1).length]? = some l[i]:=f1
  have f2':(panOf l l[i].1 l[i].2.1).take (panOf (l.take i) l[i].1 l[i].2.1).length=panOf (l.take i) l[i].1 l[i].2.1:=f2
  simp only [pAtS,List.getElem?_eq_getElem hi,Bool.and_eq_true,beq_iff_eq,Bool.not_eq_true']
  generalize panOf (l.take i) l[i].1 l[i].2.1=ah at *
  have hk:=(List.getElem?_eq_some_iff.1 f1').1
  have h1:=hc ah.length hk
  simp only [chkP,f1',Bool.and_eq_true,beq_iff_eq] at h1
  refine ⟨⟨h1.1.1.1,h1.1.1.2⟩,?_⟩
  rw [List.any_eq_false]
  intro q hq
  rw [← f2'] at hq
  obtain ⟨k,hk2,rfl⟩:=List.mem_take_iff_getElem.1 hq
  have hk3:k<(panOf l l[i].1 l[i].2.1).length:=by omega
  have h2:=hc k hk3
  simp only [chkP,List.getElem?_eq_getElem hk3,Bool.and_eq_true,Bool.or_eq_true,beq_iff_eq,Bool.not_eq_true'] at h2
  have h3:=h2.2
  rcases h3 with h3|h3
  ·omega
  ·simp [isGone,h3]
theorem take_at (l:List PanPane) (n i:Nat) (hi:i<n) (hn:n≤l.length):pAtS (l.take n) i=pAtS l i:=by
 have e1:(l.take n)[i]? = l[i]? := List.getElem?_take_of_lt hi
 have e2:(l.take n).take i=l.take i:=by rw [List.take_take,Nat.min_eq_left (by omega)]
 simp only [pAtS,e1,e2]
theorem sound_take (l:List PanPane) (n:Nat) (hn:n≤l.length) (h:pSound l=true):pSound (l.take n)=true:=by
 simp only [pSound,List.all_eq_true,List.mem_range,List.length_take] at h ⊢
 intro i hi
 rw [take_at l n i (by omega) hn]
 exact h i (by omega)
theorem l20Pane_t {r:l20Rd} {B:Int} (a:Int) (ha:1≤a) (h:Ok B r) (hB:B≤70000):Tot (fun v=>Ok (B+40) v.2) (s_l20Pane (r,a)):=by
 simp only [s_l20Pane]
 refine Tot.bd (pickP 3 h (by omega) (by omega)) fun v1 h1 => ?_
 refine Tot.bd (pickP 3 h1.2.2 (by omega) (by omega)) fun v2 h2 => ?_
 refine Tot.bd (Tot.ixT h2.1 (by simpa using h2.2.1)) fun v3 _ => ?_
 refine Tot.bd (l20Agg_t 99 (by omega) h2.2.2 (by omega)) fun v4 h4 => ?_
 refine Tot.bd (pickP 19 h4 (by omega) (by omega)) fun v5 h5 => ?_
 simp only [s_AggAdd_e,bd_s]
 refine Tot.bd (pickP 2 h5.2.2 (by omega) (by omega)) fun v7 h7 => ?_
 refine Tot.bd (P:=fun v=>Ok (B+17) v.1) ?_ fun v9 h9 => ?_
 ·refine Tot.cnd (fun _ => ?_) (fun _=>Tot.sm (h7.2.2.mono (by omega)))
  exact Tot.bd (pickP 3 h7.2.2 (by omega) (by omega)) fun v h=>Tot.sm (h.2.2.mono (by omega))
 refine Tot.bd (pickP 5 h9 (by omega) (by omega)) fun v10 h10 => ?_
 refine Tot.bd (P:=fun v=>Ok (B+19) v.1) ?_ fun v12 h12 => ?_
 ·refine Tot.cnd (fun _ => ?_) (fun _=>Tot.sm (h10.2.2.mono (by omega)))
  exact Tot.bd (pickP 3 h10.2.2 (by omega) (by omega)) fun v h=>Tot.sm (h.2.2.mono (by omega))
 refine Tot.bd (pickP a h12 (by omega) ha) fun v13 h13 => ?_
 refine Tot.cnd (fun _=>Tot.sm (h13.2.2.mono (by omega))) (fun _ => ?_)
 refine Tot.bd (pickP 5 h13.2.2 (by omega) (by omega)) fun v14 h14 => ?_
 refine Tot.bd (P:=fun v=>Ok (B+40) v.1) ?_ fun v h=>Tot.sm h
 refine Tot.cnd (fun _ => ?_) (fun _=>Tot.cnd (fun _ => ?_) (fun _=>Tot.cnd (fun _ => ?_) (fun _=>Tot.cnd (fun _ => ?_) (fun _ => ?_))))
 ·refine Tot.bd (pickP 2 h14.2.2 (by omega) (by omega)) fun v h => ?_
  exact Tot.bd (Tot.ixT h.1 (by simpa using h.2.1)) fun w _=>Tot.sm (h.2.2.mono (by omega))
 ·exact Tot.bd (l20Win_t 1 (by omega) h14.2.2 (by omega)) fun v h=>Tot.sm (h.mono (by omega))
 ·refine Tot.bd (pickP 5 h14.2.2 (by omega) (by omega)) fun v h => ?_
  exact Tot.bd (Tot.ixT h.1 (by simpa using h.2.1)) fun w _=>Tot.sm (h.2.2.mono (by omega))
 ·exact Tot.bd (pickP 5 h14.2.2 (by omega) (by omega)) fun v h=>Tot.sm (h.2.2.mono (by omega))
 ·exact Tot.bd (l20Agg_t 1 (by omega) h14.2.2 (by omega)) fun v h=>Tot.sm (h.mono (by omega))
theorem l20Panes_t {r:l20Rd} {B:Int} (h:Ok B r) (hB:B≤60000):Tot (fun v=>v.1.length≤8∧Ok (B+330) v.2) (s_l20Panes r):=by
 simp only [s_l20Panes]
 refine Tot.bd (pickP 9 h (by omega) (by omega)) fun v1 h1 => ?_
 refine Tot.bd (P:=fun v=>v.2.length≤8∧Ok (B+330) v.1) ?_ fun v h=>Tot.sm h
 refine Tot.iter (fun s:l20Rd×List PanPane×Int=>Ok (B+1+40*(8-s.2.2)) s.1∧(0≤s.2.2∧s.2.2≤8)∧(s.2.1.length:Int)≤8-s.2.2) (fun s=>s.2.2.toNat) (fun s hs' => ?_) ⟨h1.2.2.mono (by simp only;omega),⟨h1.1,by simp only;omega⟩,by simp only [List.length_nil];omega⟩
 obtain ⟨rd,o,i⟩:=s
 obtain ⟨ho,⟨i0,i1⟩,il⟩:=hs'
 simp only at ho i0 i1 il
 refine Tot.cnd (fun hc => ?_) (fun hc=>Tot.sm ⟨by simp only;omega,ho.mono (by omega)⟩)
 have hc:i>0:=by simpa using hc
 refine Tot.bd (l20Pane_t 30 (by omega) ho (by omega)) fun v3 h3 => ?_
 have w1:w6 (i-1)=i-1:=w6_id (by omega) (by omega)
 simp only [w1]
 refine Tot.gd (show (o.length+[v3.1].length)*72≤140737488355328 by simp only [List.length_singleton];omega) (Tot.sm ⟨⟨h3.mono (by simp only;omega),⟨by simp only;omega,by simp only;omega⟩,by simp only [List.length_append,List.length_singleton];omega⟩,?_⟩)
 show (i-1).toNat<i.toNat
 omega
theorem DrawPanSound_t (l:List Int) (hb:∀ x,x∈l→0≤x∧x≤255):Tot (fun v=>v.length≤4000) (s_DrawPanSound l):=by
 simp only [s_DrawPanSound]
 refine Tot.bd (l20Open_t l hb) fun v1 h1 => ?_
 refine Tot.bd (pickP 3 h1 (by omega) (by omega)) fun v2 h2 => ?_
 refine Tot.cnd (fun _ => ?_) (fun _ => ?_)
 ·exact Tot.bd (l20Panes_t h2.2.2 (by omega)) fun v3 h3=>Tot.sm (by omega)
 refine Tot.bd (l21Flow_t h2.2.2 (by omega)) fun v4 h4 => ?_
 obtain ⟨hF,_,ho⟩:=h4
 have hfd:=hF.fd.t
 refine Tot.bd (Tot.ixT (by omega) (show (0:Int)<(v4.1.2.2.2.1.length:Int) by omega)) fun v5 h5 => ?_
 have hsm:=pTsk_sm (hF.ok.tsk v5 h5).1
 refine Tot.gd (show (0+v5.2.2.2.2.1.length)*72≤140737488355328 by omega) ?_
 refine Tot.bd (P:=fun v=>Ok (0+1+6001) v.1∧v.2.1=v4.1∧v.2.2.1=v5.2.2.2.2.1) ?_ fun v8 h8 => ?_
 ·refine Tot.bd (pickP 2 ho (by omega) (by omega)) fun v6 h6 => ?_
  have hok:=s_FloOk_e v4.1 hF.sn
  simp only [hok,bd_s]
  exact Tot.cnd (fun _=>Tot.sm ⟨h6.2.2.mono (by omega),rfl,rfl⟩) (fun _=>Tot.sm ⟨h6.2.2.mono (by omega),rfl,rfl⟩)
 obtain ⟨rd,f8,o8,c8⟩:=v8
 obtain ⟨ho8,e1,e2⟩:=h8
 simp only at ho8 e1 e2
 subst e1 e2
 refine Tot.bd (P:=fun v=>Ok (0+1+6001) v.1∧v.2.length≤3000) ?_ fun v11 h11 => ?_
 ·refine Tot.cnd (fun _ => ?_) (fun _=>Tot.sm ⟨ho8,by simp only;omega⟩)
  have hd:=s_FloDrain_e (C:=2*70+504) (by omega) hF.di hF.sn 60
  have hd2:=hd.2 (by omega)
  have hp:=s_FloPanes_e (f:=fDrain v4.1 60) (smC_sn hd2.1.ok.ckp.sm)
  simp only [hd.1,bd_s,hp.1]
  exact Tot.sm ⟨ho8,hp.2⟩
 obtain ⟨rd11,o11⟩:=v11
 obtain ⟨ho11,hl11⟩:=h11
 simp only at ho11 hl11
 refine Tot.bd (P:=fun v=>Ok (0+1+6002) v.1∧v.2.1=o11∧(v.2.2=true→1<o11.length)) ?_ fun v13 h13 => ?_
 ·refine Tot.cnd (fun hc => ?_) (fun _=>Tot.sm ⟨ho11.mono (by omega),rfl,by simp⟩)
  have hc:1<o11.length:=by simp only [decide_eq_true_eq] at hc;omega
  exact Tot.bd (pickP 3 ho11 (by omega) (by omega)) fun v12 h12=>Tot.sm ⟨h12.2.2.mono (by omega),rfl,fun _=>hc⟩
 obtain ⟨rd13,o13,c13⟩:=v13
 obtain ⟨ho13,e1,hc13⟩:=h13
 simp only at ho13 e1 hc13
 subst e1
 refine Tot.bd (P:=fun v=>v.length≤4000) ?_ fun v h=>Tot.sm h
 refine Tot.cnd (fun hc => ?_) (fun _=>Tot.sm (by simp only;omega))
 have hl:=hc13 hc
 refine Tot.bd (pickP _ ho13 (by omega) (show (1:Int)≤(o13.length:Int) by omega)) fun v14 h14 => ?_
 have h142:v14.1<(o13.length:Int):=h14.2.1
 refine Tot.bd (Tot.ixT h14.1 h142) fun v15 _ => ?_
 refine Tot.bd (pickP 2 h14.2.2 (by omega) (by omega)) fun v16 h16 => ?_
 refine Tot.gd trivial ?_
 refine Tot.bd (pickP _ h16.2.2 (by omega) (show (1:Int)≤(o13.length:Int) by omega)) fun v17 h17 => ?_
 have h172:v17.1<(o13.length:Int):=h17.2.1
 have hul:∀ x,(o13.take v14.1.toNat++x::o13.drop (v14.1.toNat+1)).length=o13.length:=fun x=>upd_len _ _ _ (by omega)
 refine Tot.bd (Tot.ixT h17.1 (by rw [hul];exact h172)) fun v18 _ => ?_
 refine Tot.gd ?_ (Tot.sm ?_)
 ·rw [hul];simp only [List.length_singleton];omega
 ·rw [List.length_append,hul];simp only [List.length_singleton];omega
theorem cls_loop (l:List PanPane) (i:Nat) (hi:i<l.length) (h:l.length<1000000) (a:Bool) :
  iter (A:=List PanPane×(List PanPane×(Bool×Int))) (B:=List PanPane×Bool) (fun v8=>cnd (decide (v8.2.2.2<(v8.2.1.length:Int))) (bd (α:=List PanPane×(List PanPane×Bool)) (cnd v8.2.2.1 (bd (ix v8.2.1 v8.2.2.2) fun v9=>bd (i_PanOk v9) fun v10=>cnd v10 (gd True (cnd (v9.2.2.1==v8.2.2.2) (gd True (cnd ((v8.2.2.2==(0:Int))==(v9.2.2.2.1==(1:Int))) (cnd ((w6 (v8.2.2.2+1))==(v8.2.1.length:Int)) (some (v8.1,v8.2.1,true)) (gd True (some (v8.1,v8.2.1,(v9.2.2.2.1 != (3:Int)))))) (some (v8.1,v8.2.1,false)))) (some (v8.1,v8.2.1,false)))) (some (v8.1,v8.2.1,false))) (some (v8.1,v8.2.1,false))) fun v11=>some (.inl (v11.1,v11.2.1,v11.2.2,w6 (v8.2.2.2+1)))) (some (.inr (v8.1,v8.2.2.1)))) (l,panOf l l[i].1 l[i].2.1,a,0)=some (l,a&&clsP l i):=by
 have hle:(panOf l l[i].1 l[i].2.1).length≤l.length:=List.length_filter_le _ _
 have hcl:clsP l i=(List.range (panOf l l[i].1 l[i].2.1).length).all (chkP (panOf l l[i].1 l[i].2.1)):=by
  simp only [clsP,List.getElem?_eq_getElem hi]
 rw [hcl]
 generalize panOf l l[i].1 l[i].2.1=c at *
 have hj:=fold_j (S:=Bool) (A:=List PanPane×(List PanPane×(Bool×Int))) (B:=List PanPane×Bool) c.length (fun a k=>a&&chkP c k) (fun _ _=>True) (f:=(fun v8=>cnd (decide (v8.2.2.2<(v8.2.1.length:Int))) (bd (α:=List PanPane×(List PanPane×Bool)) (cnd v8.2.2.1 (bd (ix v8.2.1 v8.2.2.2) fun v9=>bd (i_PanOk v9) fun v10=>cnd v10 (gd True (cnd (v9.2.2.1==v8.2.2.2) (gd True (cnd ((v8.2.2.2==(0:Int))==(v9.2.2.2.1==(1:Int))) (cnd ((w6 (v8.2.2.2+1))==(v8.2.1.length:Int)) (some (v8.1,v8.2.1,true)) (gd True (some (v8.1,v8.2.1,(v9.2.2.2.1 != (3:Int)))))) (some (v8.1,v8.2.1,false)))) (some (v8.1,v8.2.1,false)))) (some (v8.1,v8.2.1,false))) (some (v8.1,v8.2.1,false))) fun v11=>some (.inl (v11.1,v11.2.1,v11.2.2,w6 (v8.2.2.2+1)))) (some (.inr (v8.1,v8.2.2.1))))) (fun a k=>(l,c,a,k)) (fun a=>(l,a)) a trivial (fun a _=>by simp) (fun a k hk _=>by
  refine ⟨trivial,?_⟩
  simp only [lt_d hk,cnd_t,ix_t hk,bd_s,i_PanOk_e,w6_s hk (show c.length<1000000000 by omega),gd_T,bne_b]
  cases a
  ·simp only [cnd_f,bd_s,Bool.false_and]
  ·simp only [cnd_t,Bool.true_and,chkP,List.getElem?_eq_getElem hk]
   rcases Bool.eq_false_or_eq_true (pPan c[k]) with b1|b1
   rotate_left
   ·simp only [b1,cnd_f,bd_s,Bool.false_and]
   rcases Bool.eq_false_or_eq_true (c[k].2.2.1==(k:Int)) with b2|b2
   rotate_left
   ·simp only [b1,b2,cnd_t,cnd_f,bd_s,Bool.true_and,Bool.false_and]
   rcases Bool.eq_false_or_eq_true (((k:Int)==0)==(c[k].2.2.2.1==1)) with b3|b3
   rotate_left
   ·simp only [b1,b2,b3,cnd_t,cnd_f,bd_s,Bool.true_and,Bool.false_and]
   rcases Bool.eq_false_or_eq_true ((k:Int)+1==(c.length:Int)) with b4|b4
   ·simp only [b1,b2,b3,b4,cnd_t,cnd_f,bd_s,Bool.true_and,Bool.true_or]
   ·simp only [b1,b2,b3,b4,cnd_t,cnd_f,bd_s,Bool.true_and,Bool.false_or])
 rw [hj.1]
 have:∀ (n:Nat) (a:Bool),(List.range n).foldl (fun a k=>a&&chkP c k) a=(a&&(List.range n).all (chkP c)):=by
  intro n
  induction n with
  | zero=>intro a;simp
  | succ n ih=>intro a;rw [List.range_succ,List.foldl_append,ih,List.all_append];simp [Bool.and_assoc]
 rw [this]
theorem range_all_false {p:Nat→Bool} {i n:Nat} (h:(List.range i).all p=false) (hi:i≤n):(List.range n).all p=false:=by
 rw [List.all_eq_false] at h ⊢
 obtain ⟨x,hx,hp⟩:=h
 exact ⟨x,List.mem_range.2 (by have:=List.mem_range.1 hx;omega),hp⟩
theorem all_loop (l:List PanPane) (h:l.length<1000000) :
  iter (A:=List PanPane×(Bool×Int)) (B:=List PanPane×Bool) (fun v4=>bd (α:=List PanPane×Bool) (cnd (decide (v4.2.2<(v4.1.length:Int))) (some (v4.1,v4.2.1)) (some (v4.1,false))) fun v5=>cnd v5.2 (bd (ix v5.1 v4.2.2) fun v6=>gd True (bd (i_PanOf (v5.1,v6.1,v6.2.1)) fun v7=>bd (iter (A:=List PanPane×(List PanPane×(Bool×Int))) (B:=List PanPane×Bool) (fun v8=>cnd (decide (v8.2.2.2<(v8.2.1.length:Int))) (bd (α:=List PanPane×(List PanPane×Bool)) (cnd v8.2.2.1 (bd (ix v8.2.1 v8.2.2.2) fun v9=>bd (i_PanOk v9) fun v10=>cnd v10 (gd True (cnd (v9.2.2.1==v8.2.2.2) (gd True (cnd ((v8.2.2.2==(0:Int))==(v9.2.2.2.1==(1:Int))) (cnd ((w6 (v8.2.2.2+1))==(v8.2.1.length:Int)) (some (v8.1,v8.2.1,true)) (gd True (some (v8.1,v8.2.1,(v9.2.2.2.1 != (3:Int)))))) (some (v8.1,v8.2.1,false)))) (some (v8.1,v8.2.1,false)))) (some (v8.1,v8.2.1,false))) (some (v8.1,v8.2.1,false))) fun v11=>some (.inl (v11.1,v11.2.1,v11.2.2,w6 (v8.2.2.2+1)))) (some (.inr (v8.1,v8.2.2.1)))) (v5.1,v7,v4.2.1,0)) fun v12=>some (.inl (v12.1,v12.2,w6 (v4.2.2+1))))) (some (.inr (v5.1,v4.2.1)))) (l,true,0)=some (l,(List.range l.length).all (clsP l)):=by
 refine iter_val (fun s:List PanPane×(Bool×Int)=>s.1=l∧(0≤s.2.2∧s.2.2≤l.length)∧s.2.1=(List.range s.2.2.toNat).all (clsP l)) (fun s=>((l.length:Int)-s.2.2).toNat) (fun s hs => ?_) ⟨rfl,⟨by simp,by simp⟩,by simp⟩
 obtain ⟨l',a,i⟩:=s
 obtain ⟨e1,⟨i0,i1⟩,e2⟩:=hs
 simp only at e1 i0 i1 e2
 subst e1
 rcases Bool.eq_false_or_eq_true (decide (i<(l'.length:Int))) with b|b
 ·have hi:i<l'.length:=by simpa using b
  have hn:i.toNat<l'.length:=by omega
  have hx:ix l' i=some l'[i.toNat]:=ix_n (by omega) hn
  cases a
  ·simp only [b,cnd_t,bd_s,cnd_f]
   refine Tot.sm ?_
   show (l',false)=(l',(List.range l'.length).all (clsP l'))
   rw [range_all_false e2.symm (by omega)]
  ·have hof:=i_PanOf_e l' l'[i.toNat].1 l'[i.toNat].2.1 h
   have hcl:=cls_loop l' i.toNat hn h true
   simp only [gd_T] at hcl
   have w1:w6 (i+1)=i+1:=w6_id (by omega) (by omega)
   simp only [b,cnd_t,bd_s,hx,gd_T,hof,w1]
   rw [hcl]
   refine Tot.sm ⟨⟨rfl,⟨by simp only;omega,by simp only;omega⟩,?_⟩,?_⟩
   ·have e:(i+1).toNat=i.toNat+1:=by omega
    simp only [e,List.range_succ,List.all_append,←e2]
    simp
   ·show ((l'.length:Int)-(i+1)).toNat<((l'.length:Int)-i).toNat
    omega
 ·have hi:¬ i<l'.length:=by simpa using b
  simp only [b,cnd_f,bd_s]
  refine Tot.sm ?_
  have e:i.toNat=l'.length:=by omega
  show (l',a)=(l',(List.range l'.length).all (clsP l'))
  rw [e2,e]
theorem FnPanSound_law (l:List Int) (hb:∀ x,x∈l→0≤x∧x≤255):l_FnPanSound l=some true:=by
 obtain ⟨ps,hd,hl⟩:=DrawPanSound_t l hb
 have h1:=i_PanSound_e ps (by omega)
 have h2:=s_PanSound_e ps (by omega)
 have h3:=all_loop ps (by omega)
 simp only [gd_T] at h3
 have h0:i_PanSound []=some true:=i_PanSound_e [] (by simp)
 have hw:w6 ((ps.length:Int)+1)=(ps.length:Int)+1:=w6_id (by omega) (by omega)
 simp only [l_FnPanSound,hd,bd_s,h1,h2,gd_rf,gd_T,bne_self_eq_false,cnd_f]
 rw [h3]
 rcases Bool.eq_false_or_eq_true (decide ((l.length:Int)>1048576)) with b|b
 ·simp only [b,cnd_t]
 simp only [b,cnd_f,bd_s,←sound_cls,beq_self_eq_true,cnd_t,hw,List.drop_zero,Nat.sub_zero]
 cases hs:pSound ps
 ·simp only [Bool.not_false,cnd_t,h0,bd_s]
 ·have ht:=tm (a:=(l.length:Int)) (n:=(ps.length:Int)+1) (by omega) (by omega)
  have g1:(ps.length:Int)+1≠0:=by omega
  have g2:0≤((l.length:Int).tmod ((ps.length:Int)+1)).toNat∧((l.length:Int).tmod ((ps.length:Int)+1)).toNat≤ps.length:=by omega
  have h4:=i_PanSound_e (ps.take ((l.length:Int).tmod ((ps.length:Int)+1)).toNat) (by simp;omega)
  rw [sound_take ps _ g2.2 hs] at h4
  simp only [Bool.not_true,cnd_f,gd_t g1,gd_t ht.1,gd_t g2,h4,bd_s,cnd_t,h0]
end Go.Proofs.YtfhkpnnbklojoaaGreatA.AS
