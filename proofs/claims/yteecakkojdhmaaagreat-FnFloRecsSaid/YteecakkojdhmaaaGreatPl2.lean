/- A part of the proof that FnFloRecs holds: the law about the plain functions. -/
import Derived.Test.YteecakkojdhmaaaGreatPl1
set_option linter.unusedVariables false
set_option linter.unusedSimpArgs false
namespace Go.Proofs.YteecakkojdhmaaaGreatA.AS
theorem Tot.of {α:Type} {P:α→Prop} {o:Option α} {x:α} (h:o=some x) (hp:P x):Tot P o:=⟨x,h,hp⟩
theorem lowI_rep (S:Nat) (h:0<S):lowI (List.replicate S 0)=0:=by
 have:=lowI_facts (List.replicate S 0) 1000;have hm:(0:Int)∈List.replicate S 0:=by rw [List.mem_replicate];exact ⟨by omega,rfl⟩
 have h1:=this.1.2 0 hm;rcases this.2 with h2|h2
 ·have:lowI (List.replicate S 0)=1000:=h2;have h3:lowI (List.replicate S 0)≤0:=h1;omega
 ·exact List.eq_of_mem_replicate h2
theorem op0_I {j:JobJob} (hj:jobOk j=true):OpI j op0 0:=⟨hj,by simp,by simp,List.Pairwise.nil,fun _=>List.Pairwise.nil,by simp⟩
theorem sn0_ok {j:JobJob} (hj:jobOk j=true):pSnap j (sn0 j.1.toNat)=true:=by
 have hS:=(job_S hj).1;have hop:=(op0_I hj).ok (by simp);simp only [pSnap,bae,beq_iff_eq,List.all_eq_true];refine ⟨⟨⟨hop,by simp only [List.length_replicate];omega⟩,?_⟩,(lowI_rep _ (by omega)).symm⟩;intro m hm;have:=List.eq_of_mem_replicate hm;subst this;rfl
theorem rep_map (S:Nat):(List.replicate S (([],0,false):TskIn))=(List.replicate S (0:Int)).map fun m=>(([],m,false):TskIn):=by
 rw [List.map_replicate]
theorem tsk0_I (w:ItmItem→Int) {j:JobJob} (hj:jobOk j=true):TskG w j (tsk0 j.1.toNat) 0 0:=by
 have h:=new_ok w (W:=0) hj (sn0_ok hj) (op0_I hj) (by omega);have hS:=(job_S hj).1;have e:pTskNew j op0 (List.replicate j.1.toNat 0)=tsk0 j.1.toNat:=by
  have h1:=(op0_I hj).ok (by simp);have h2:(((List.replicate j.1.toNat (0:Int)).length:Int)==j.1)=true:=by simp only [List.length_replicate,beq_iff_eq];omega
  have h3:(List.replicate j.1.toNat (0:Int)).all isTm=true:=by
   rw [List.all_eq_true];intro m hm;have:=List.eq_of_mem_replicate hm;subst this;rfl
  simp only [pTskNew,h1,h2,h3,Bool.not_true,Bool.or_self,bfe,if_false,←rep_map]
 rw [e] at h;exact h
theorem ckp0_P {j:JobJob} (hj:jobOk j=true):CkpP j (ckp0 j.1.toNat j.2.1.toNat):=by
 have hS:=job_S hj;refine ⟨hj,⟨Int.le_refl _,by simp⟩,Int.le_refl _,(by intro h;cases h),?_,?_,?_,?_,?_,?_,?_,?_,?_⟩
 ·simp only [List.length_replicate];omega
 ·simp only [List.length_replicate];omega
 ·simp only [List.length_replicate];omega
 ·simp only [List.length_replicate];omega
 ·simp only [List.length_replicate];omega
 ·intro n hn;have:=List.eq_of_mem_replicate hn;subst this;exact ⟨by omega,by omega⟩
 ·intro s hs;have:=List.eq_of_mem_replicate hs;subst this;exact sn0_ok hj
 ·intro n hn;have:=List.eq_of_mem_replicate hn;subst this;exact ⟨⟨by omega,by omega⟩,.inr rfl⟩
 ·intro i a b;simp only at a b ⊢;rw [rep_get a,rep_get b];rfl
theorem flo0_FG (w:ItmItem→Int) {j:JobJob} {a:List (List ItmItem)} (hj:jobOk j=true) (ha:(a.length:Int)=j.1) (hl:∀ l,l∈a→logOk l=true):FG w 0 (flo0 j a j.1.toNat j.2.1.toNat):=by
 have hS:=job_S hj;refine ⟨⟨ckp0_P hj,ha,?_,?_,?_,hl,?_,?_,?_,?_⟩,?_,?_,?_,?_⟩
 ·show ((List.replicate j.1.toNat ((0:Int),(0:Int))).length:Int)=j.1;rw [List.length_replicate];omega
 ·show ((List.replicate j.2.1.toNat (tsk0 j.1.toNat)).length:Int)=j.2.1;rw [List.length_replicate];omega
 ·show ((List.replicate j.2.1.toNat snk0).length:Int)=j.2.1;rw [List.length_replicate];omega
 ·intro i x y;simp only at y ⊢;rw [rep_get y];exact ⟨⟨Int.le_refl _,by simp only;omega⟩,Int.le_refl _,Int.le_refl _⟩
 ·intro i x y;have y':i<(List.replicate j.1.toNat (0:Int)).length:=y;show (List.replicate j.1.toNat (0:Int))[i]≤_;rw [rep_get y'];omega
 ·intro t ht;have:=List.eq_of_mem_replicate ht;subst this;exact ⟨(pTsk_iff _ _).2 (tsk0_I w hj).ok,Int.le_refl _⟩
 ·intro s hs;have:=List.eq_of_mem_replicate hs;subst this;rfl
 ·intro t ht;have:=List.eq_of_mem_replicate ht;subst this;exact tsk0_I w hj
 ·intro i x y z;have x':i<(List.replicate j.2.1.toNat false).length:=x;have z':(List.replicate j.2.1.toNat false)[i]=true:=z;rw [rep_get x'] at z';cases z'
 ·intro s hs;have:=List.eq_of_mem_replicate hs;subst this;exact op0_I hj
 ·intro i x y;have y':i<(List.replicate j.1.toNat (-1:Int)).length:=y;show (List.replicate j.1.toNat (-1:Int))[i]≤_;rw [rep_get y'];omega
theorem flo0_FI {j:JobJob} {a:List (List ItmItem)} (hj:jobOk j=true) (ha:(a.length:Int)=j.1) (hl:∀ l,l∈a→logOk l=true):FI 0 (flo0 j a j.1.toNat j.2.1.toNat):=flo0_FG wt2 hj ha hl
structure FD (f:FloFlow):Prop where
 s:1≤f.2.2.1.length∧f.2.2.1.length≤3
 t:1≤f.2.2.2.1.length∧f.2.2.2.1.length≤2
 i:∀ t,t∈f.2.2.2.1→t.1.length=f.2.2.1.length
theorem FloP.fd {f:FloFlow} (h:FloP f):FD f:=by
 obtain ⟨n1,n2,n3,n4,n5,n6⟩:=h.lens;have n2:f.2.2.1.length=f.2.1.length:=n2;have n1:f.2.1.length≤3:=n1;have n5:1≤f.2.1.length:=n5;exact ⟨by omega,⟨n6,n3⟩,h.smF.il⟩
theorem l21Event_t {r:l20Rd} {B:Int} {f:FloFlow} (h:Ok B r) (hB:B≤80000) (hf:FD f):Tot (fun v=>Ok (B+3) v.2) (s_l21Event (r,f)):=by
 have hs:=hf.s;have ht:=hf.t;simp only [s_l21Event];refine Tot.bd (pickP 28 h (by omega) (by omega)) fun v1 h1 => ?_
 have w1:w6 ((f.2.2.2.1.length:Int)+1)=(f.2.2.2.1.length:Int)+1:=w6_id (by omega) (by omega);have w2:w6 ((f.2.2.1.length:Int)+1)=(f.2.2.1.length:Int)+1:=w6_id (by omega) (by omega);have ok3:=h1.2.2.mono (C:=B+3) (by omega);refine Tot.bd (P:=fun v=>v.1=v1.2∧v.2.1=f) (Tot.cnd (fun _=>Tot.sm ⟨rfl,rfl⟩) (fun _=>Tot.sm ⟨rfl,rfl⟩)) fun v2 h2 => ?_
 obtain ⟨a2,f2,c2⟩:=v2;obtain ⟨e1,e2⟩:=h2;simp only at e1 e2;subst e1 e2;refine Tot.bd (P:=fun v=>match v with|.inl x=>Ok (B+3) x.1|.inr x=>x.1=v1.2∧x.2.1=f2) ?_ fun v8 h8 => ?_
 ·refine Tot.cnd (fun _=>Tot.sm ok3) (fun _ => ?_);refine Tot.bd (P:=fun v=>v.1=v1.2∧v.2.1=f2) (Tot.cnd (fun _=>Tot.sm ⟨rfl,rfl⟩) (fun _=>Tot.sm ⟨rfl,rfl⟩)) fun v3 h3 => ?_
  obtain ⟨a3,f3,c3⟩:=v3;obtain ⟨e1,e2⟩:=h3;simp only at e1 e2;subst e1 e2;refine Tot.cnd (fun _=>Tot.sm ok3) (fun _=>Tot.cnd (fun _=>Tot.sm ok3) (fun _ => ?_));refine Tot.bd (P:=fun v=>v.1=v1.2∧v.2.1=f3) (Tot.cnd (fun _=>Tot.sm ⟨rfl,rfl⟩) (fun _=>Tot.sm ⟨rfl,rfl⟩)) fun v4 h4 => ?_
  obtain ⟨a4,f4,c4⟩:=v4;obtain ⟨e1,e2⟩:=h4;simp only at e1 e2;subst e1 e2;refine Tot.cnd (fun _ => ?_) (fun _=>Tot.cnd (fun _=>Tot.sm ok3) (fun _ => ?_))
  ·simp only [w1];exact Tot.bd (pickP _ h1.2.2 (by omega) (by omega)) fun v5 h5=>Tot.sm (h5.2.2.mono (by omega))
  ·refine Tot.bd (P:=fun v=>v.1=v1.2∧v.2.1=f4) ?_ fun v6 h6 => ?_
   ·exact Tot.cnd (fun _=>Tot.sm ⟨rfl,rfl⟩) (fun _=>Tot.cnd (fun _=>Tot.sm ⟨rfl,rfl⟩) (fun _=>Tot.cnd (fun _=>Tot.sm ⟨rfl,rfl⟩) (fun _=>Tot.cnd (fun _=>Tot.sm ⟨rfl,rfl⟩) (fun _=>Tot.cnd (fun _=>Tot.sm ⟨rfl,rfl⟩) (fun _=>Tot.cnd (fun _=>Tot.sm ⟨rfl,rfl⟩) (fun _=>Tot.cnd (fun _=>Tot.sm ⟨rfl,rfl⟩) (fun _=>Tot.sm ⟨rfl,rfl⟩)))))))
   ·obtain ⟨a6,f6,c6⟩:=v6;obtain ⟨e1,e2⟩:=h6;simp only at e1 e2;subst e1 e2;refine Tot.cnd (fun _ => ?_) (fun _=>Tot.sm ⟨rfl,rfl⟩);simp only [w2];exact Tot.bd (pickP _ h1.2.2 (by omega) (by omega)) fun v5 h5=>Tot.sm (h5.2.2.mono (by omega))
 ·cases v8 with
  | inl x=>exact Tot.sm h8
  | inr x =>
   obtain ⟨a6,f6,c6⟩:=x;obtain ⟨e1,e2⟩:=h8;simp only at e1 e2;subst e1 e2;simp only [cs_r,w2];refine Tot.bd (pickP _ h1.2.2 (by omega) (by omega)) fun v5 h5 => ?_
   exact Tot.bd (pickP _ h5.2.2 (by omega) (by omega)) fun v6 h6=>Tot.sm (h6.2.2.mono (by omega))
theorem l21Lively_t {r:l20Rd} {B:Int} {f:FloFlow} (h:Ok B r) (hB:B≤80000) (hf:FD f):Tot (fun v=>Ok (B+6) v.2) (s_l21Lively (r,f)):=by
 have hs:=hf.s;have ht:=hf.t;simp only [s_l21Lively];refine Tot.bd (pickP _ h (by omega) (by omega)) fun v1 h1 => ?_
 refine Tot.bd (pickP _ h1.2.2 (by omega) (by omega)) fun v2 h2 => ?_
 refine Tot.bd (P:=fun v=>match v with|.inl x=>Ok (B+6) x.1|.inr x=>Ok (B+6) x.1) ?_ fun v8 h8 => ?_
 ·refine Tot.iter (fun s:l20Rd×FloFlow×(Int×Int×Int)×Int×Int=>s.2.1=f∧(0≤s.2.2.2.1∧s.2.2.2.1<f.2.2.1.length)∧(0≤s.2.2.2.2∧s.2.2.2.2≤f.2.2.1.length)∧Ok (B+2+s.2.2.2.2) s.1) (fun s=>((f.2.2.1.length:Int)-s.2.2.2.2).toNat) (fun s hs' => ?_) ⟨rfl,⟨h2.1,h2.2.1⟩,⟨by simp,by simp⟩,h2.2.2.mono (by simp only;omega)⟩;obtain ⟨rd,f',z,kk,i⟩:=s;obtain ⟨e,⟨k0,k1⟩,⟨i0,i1⟩,ho⟩:=hs';simp only at e k0 k1 i0 i1 ho ⊢;subst e;refine Tot.cnd (fun hc => ?_) (fun hc=>Tot.sm (ho.mono (by omega)));have hc:i<f'.2.2.1.length:=by simpa using hc
  refine Tot.bd (Tot.ixT h1.1 h1.2.1) fun v4 h4 => ?_
  have hil:=hf.i v4 h4;refine Tot.bd (Tot.ixT k0 (by omega)) fun v5 h5 => ?_
  refine Tot.bd (P:=fun v=>Ok (B+2+i+1) v.1∧v.2.1=f') ?_ fun v7 h7 => ?_
  ·refine Tot.cnd (fun _=>Tot.cnd (fun _ => ?_) (fun _=>Tot.sm ⟨ho.mono (by omega),rfl⟩)) (fun _=>Tot.sm ⟨ho.mono (by omega),rfl⟩);exact Tot.bd (pickP 3 ho (by omega) (by omega)) fun v6 h6=>Tot.sm ⟨h6.2.2.mono (by omega),rfl⟩
  ·obtain ⟨a7,f7,c7⟩:=v7;obtain ⟨o7,e7⟩:=h7;simp only at o7 e7;subst e7;refine Tot.cnd (fun _=>Tot.sm (o7.mono (by omega))) (fun _ => ?_);have w1:w6 (kk+1)=kk+1:=w6_id (by omega) (by omega);have w2:w6 (i+1)=i+1:=w6_id (by omega) (by omega);have hm:=tm (a:=kk+1) (n:=(f7.2.2.1.length:Int)) (by omega) (by omega);refine Tot.gd (show ((f7.2.2.1.length:Int))≠0 by omega) (Tot.sm ?_);simp only [w1,w2];refine ⟨⟨rfl,hm,⟨by simp only;omega,by simp only;omega⟩,o7.mono (by simp only;omega)⟩,?_⟩;show ((f7.2.2.1.length:Int)-(i+1)).toNat<((f7.2.2.1.length:Int)-i).toNat;omega
 ·cases v8 with
  | inl x=>exact Tot.sm h8
  | inr x=>exact Tot.sm h8
theorem l21Story_t {r:l20Rd} {B:Int} {f:FloFlow} (a:Int) (h:Ok B r) (hB:B≤80000) (hf:FD f):Tot (fun v=>Ok (B+6) v.2) (s_l21Story (r,f,a)):=by
 have hs:=hf.s;have ht:=hf.t;have ok6:=h.mono (C:=B+6) (by omega);simp only [s_l21Story];refine Tot.bd (P:=fun v=>match v with|.inl x=>Ok (B+6) x.1|.inr x=>x.1=r∧x.2.1=f) ?_ fun v8 h8 => ?_
 ·refine Tot.cnd (fun _=>Tot.sm ok6) (fun _=>Tot.cnd (fun _ => ?_) (fun _=>Tot.cnd (fun _ => ?_) (fun _=>Tot.cnd (fun _=>Tot.sm ok6) (fun _ => ?_))))
  ·exact Tot.bd (pickP _ h (by omega) (by omega)) fun v h=>Tot.sm (h.2.2.mono (by omega))
  ·refine Tot.bd (pickP 3 h (by omega) (by omega)) fun v h => ?_
   exact Tot.bd (Tot.ixT h.1 (by simpa using h.2.1)) fun w _=>Tot.sm (h.2.2.mono (by omega))
  ·refine Tot.bd (P:=fun v=>v.1=r∧v.2.1=f) (Tot.cnd (fun _=>Tot.sm ⟨rfl,rfl⟩) (fun _=>Tot.sm ⟨rfl,rfl⟩)) fun v2 h2 => ?_
   obtain ⟨a2,f2,c2⟩:=v2;obtain ⟨e1,e2⟩:=h2;simp only at e1 e2;subst e1 e2;refine Tot.cnd (fun _=>Tot.sm ok6) (fun _ => ?_);refine Tot.bd (P:=fun v=>v.1=a2∧v.2.1=f2) (Tot.cnd (fun _=>Tot.sm ⟨rfl,rfl⟩) (fun _=>Tot.sm ⟨rfl,rfl⟩)) fun v3 h3 => ?_
   obtain ⟨a3,f3,c3⟩:=v3;obtain ⟨e1,e2⟩:=h3;simp only at e1 e2;subst e1 e2;refine Tot.cnd (fun _ => ?_) (fun _ => ?_)
   ·refine Tot.bd (pickP 3 h (by omega) (by omega)) fun v h => ?_
    refine Tot.bd (Tot.ixT h.1 (by simpa using h.2.1)) fun w _ => ?_
    exact Tot.bd (pickP _ h.2.2 (by omega) (show (1:Int)≤(f3.2.2.2.1.length:Int) by omega)) fun v h=>Tot.sm (h.2.2.mono (by omega))
   ·refine Tot.bd (P:=fun v=>v.1=a3∧v.2.1=f3) (Tot.cnd (fun _=>Tot.sm ⟨rfl,rfl⟩) (fun _=>Tot.sm ⟨rfl,rfl⟩)) fun v4 h4 => ?_
    obtain ⟨a4,f4,c4⟩:=v4;obtain ⟨e1,e2⟩:=h4;simp only at e1 e2;subst e1 e2;refine Tot.cnd (fun _ => ?_) (fun _=>Tot.sm ⟨rfl,rfl⟩);exact Tot.bd (pickP _ h (by omega) (show (1:Int)≤(f4.2.2.2.1.length:Int) by omega)) fun v h=>Tot.sm (h.2.2.mono (by omega))
 ·cases v8 with
  | inl x=>exact Tot.sm h8
  | inr x =>
   obtain ⟨a6,f6,c6⟩:=x;obtain ⟨e1,e2⟩:=h8;simp only at e1 e2;subst e1 e2;exact Tot.bd (l21Lively_t h (by omega) hf) fun v h=>Tot.sm h
theorem l21Given_t {r:l20Rd} {B:Int} {f:FloFlow} (a:Int) (h:Ok B r) (hB:B≤80000) (hf:FD f):Tot (fun v=>Ok (B+6) v.2) (s_l21Given (r,f,a)):=by
 have hs:=hf.s;have ht:=hf.t;have ok6:=h.mono (C:=B+6) (by omega);simp only [s_l21Given];refine Tot.bd (P:=fun v=>match v with|.inl x=>x.1=r|.inr x=>x.1=r∧x.2.1=f) ?_ fun v8 h8 => ?_
 ·refine Tot.iter (fun s:l20Rd×FloFlow×(Int×Int×Int)×Int=>s.1=r∧s.2.1=f∧0≤s.2.2.2∧s.2.2.2≤f.2.2.2.1.length) (fun s=>((f.2.2.2.1.length:Int)-s.2.2.2).toNat) (fun s hs' => ?_) ⟨rfl,rfl,by simp,by simp⟩;obtain ⟨rd,f',z,i⟩:=s;obtain ⟨e1,e2,i0,i1⟩:=hs';simp only at e1 e2 i0 i1;subst e1 e2;refine Tot.bd (P:=fun v=>v.1=rd∧v.2.1=f'∧(v.2.2.2=true→i<f'.2.2.2.1.length)) (Tot.cnd (fun hc=>Tot.sm ⟨rfl,rfl,fun _=>by simpa using hc⟩) (fun _=>Tot.sm ⟨rfl,rfl,by simp⟩)) fun v2 h2 => ?_
  obtain ⟨a2,f2,z2,c2⟩:=v2;obtain ⟨e1,e2,e3⟩:=h2;simp only at e1 e2 e3;subst e1 e2;refine Tot.cnd (fun hc => ?_) (fun _=>Tot.sm ⟨rfl,rfl⟩);have hil:=e3 hc;refine Tot.bd (P:=fun v=>match v with|.inl x=>x.1=a2|.inr x=>x.1=a2∧x.2.1=f2) ?_ fun v9 h9 => ?_
  ·refine Tot.iter (fun s:l20Rd×FloFlow×(Int×Int×Int)×Int=>s.1=a2∧s.2.1=f2∧0≤s.2.2.2∧s.2.2.2≤f2.2.2.1.length) (fun s=>((f2.2.2.1.length:Int)-s.2.2.2).toNat) (fun s hs' => ?_) ⟨rfl,rfl,by simp,by simp⟩;obtain ⟨rd3,f3,z3,k⟩:=s;obtain ⟨e1,e2,k0,k1⟩:=hs';simp only at e1 e2 k0 k1;subst e1 e2;refine Tot.cnd (fun hc => ?_) (fun _=>Tot.sm ⟨rfl,rfl⟩);have hk:k<f3.2.2.1.length:=by simpa using hc
   refine Tot.bd (P:=fun v=>v.1=rd3∧v.2.1=f3) ?_ fun v8 h8 => ?_
   ·refine Tot.bd (Tot.ixT i0 hil) fun v4 h4 => ?_
    have h5:=hf.i v4 h4;refine Tot.bd (Tot.ixT k0 (show k<(v4.1.length:Int) by omega)) fun v5 _ => ?_
    refine Tot.cnd (fun _ => ?_) (fun _=>Tot.sm ⟨rfl,rfl⟩);refine Tot.bd (Tot.ixT i0 hil) fun v6 h6 => ?_
    have h7:=hf.i v6 h6;exact Tot.bd (Tot.ixT k0 (show k<(v6.1.length:Int) by omega)) fun v5 _=>Tot.sm ⟨rfl,rfl⟩
   ·obtain ⟨a8,f8,z8,c8⟩:=v8;obtain ⟨e1,e2⟩:=h8;simp only at e1 e2;subst e1 e2;refine Tot.cnd (fun _=>Tot.sm rfl) (fun _=>Tot.sm ?_);have w1:w6 (k+1)=k+1:=w6_id (by omega) (by omega);simp only [w1];refine ⟨⟨rfl,rfl,by simp only;omega,by simp only;omega⟩,?_⟩;show ((f8.2.2.1.length:Int)-(k+1)).toNat<((f8.2.2.1.length:Int)-k).toNat;omega
  ·cases v9 with
   | inl x=>exact Tot.sm h9
   | inr x =>
    obtain ⟨a6,f6,z6⟩:=x;obtain ⟨e1,e2⟩:=h9;simp only at e1 e2;subst e1 e2;refine Tot.sm ?_;have w1:w6 (i+1)=i+1:=w6_id (by omega) (by omega);simp only [w1];refine ⟨⟨rfl,rfl,by simp only;omega,by simp only;omega⟩,?_⟩;show ((f6.2.2.2.1.length:Int)-(i+1)).toNat<((f6.2.2.2.1.length:Int)-i).toNat;omega
 ·cases v8 with
  | inl x =>
   obtain ⟨a6,x6⟩:=x;simp only at h8;subst h8;exact Tot.sm ok6
  | inr x =>
   obtain ⟨a6,f6,z6⟩:=x;obtain ⟨e1,e2⟩:=h8;simp only at e1 e2;subst e1 e2;simp only [cs_r];refine Tot.bd (P:=fun v=>match v with|.inl x=>x.1=a6|.inr x=>x.1=a6∧x.2.1=f6) ?_ fun v9 h9 => ?_
   ·refine Tot.iter (fun s:l20Rd×FloFlow×(Int×Int×Int)×Int=>s.1=a6∧s.2.1=f6∧0≤s.2.2.2∧s.2.2.2≤f6.2.2.1.length) (fun s=>((f6.2.2.1.length:Int)-s.2.2.2).toNat) (fun s hs' => ?_) ⟨rfl,rfl,by simp,by simp⟩;obtain ⟨rd,f',z,i⟩:=s;obtain ⟨e1,e2,i0,i1⟩:=hs';simp only at e1 e2 i0 i1;subst e1 e2;refine Tot.bd (P:=fun v=>v.1=rd∧v.2.1=f'∧(v.2.2.2=true→i<f'.2.2.1.length)) (Tot.cnd (fun hc=>Tot.sm ⟨rfl,rfl,fun _=>by simpa using hc⟩) (fun _=>Tot.sm ⟨rfl,rfl,by simp⟩)) fun v2 h2 => ?_
    obtain ⟨a2,f2,z2,c2⟩:=v2;obtain ⟨e1,e2,e3⟩:=h2;simp only at e1 e2 e3;subst e1 e2;refine Tot.cnd (fun hc => ?_) (fun _=>Tot.sm ⟨rfl,rfl⟩);have hil:=e3 hc;refine Tot.bd (Tot.ixT i0 hil) fun v4 h4 => ?_
    refine Tot.cnd (fun _=>Tot.sm rfl) (fun _=>Tot.sm ?_);have w1:w6 (i+1)=i+1:=w6_id (by omega) (by omega);simp only [w1];refine ⟨⟨rfl,rfl,by simp only;omega,by simp only;omega⟩,?_⟩;show ((f2.2.2.1.length:Int)-(i+1)).toNat<((f2.2.2.1.length:Int)-i).toNat;omega
   ·cases v9 with
    | inl x =>
     obtain ⟨a7,x7⟩:=x;simp only at h9;subst h9;exact Tot.sm ok6
    | inr x =>
     obtain ⟨a7,f7,z7⟩:=x;obtain ⟨e1,e2⟩:=h9;simp only at e1 e2;subst e1 e2;simp only [cs_r];refine Tot.cnd (fun _=>Tot.sm ok6) (fun _=>Tot.gd (by decide) (Tot.cnd (fun _ => ?_) (fun _=>Tot.sm ok6)));exact Tot.bd (pickP _ h (by omega) (by omega)) fun v h=>Tot.sm (h.2.2.mono (by omega))
theorem FI.fd {k:Int} {f:FloFlow} (h:FI k f):FD f:=h.ok.fd
theorem FI.sn {k:Int} {f:FloFlow} (h:FI k f):snSm (cSnaps (fC f)):=smC_sn h.ok.ckp.sm
def fRuns (f:FloFlow) (l:List EvEvent):FloFlow:=l.foldl fStep f
theorem fRuns_FI {k:Int}:∀ (l:List EvEvent) (f:FloFlow),FI k f→k+l.length≤490→FI (k+l.length) (fRuns f l)∧(fRuns f l).1=f.1∧(fRuns f l).2.1=f.2.1:=by
 intro l;induction l generalizing k with
 | nil=>intro f h _;exact ⟨h.mono (by simp),rfl,rfl⟩
 | cons e l ih =>
  intro f h hk;simp only [List.length_cons] at hk;obtain ⟨h1,h2,h3⟩:=fStep_ok h (by omega) e;obtain ⟨i1,i2,i3⟩:=ih (fStep f e) h1 (by omega);refine ⟨?_,i2.trans h2,i3.trans h3⟩;have e2:k+1+(l.length:Int)=k+((e::l).length:Int):=by simp only [List.length_cons];omega
  rw [← e2];exact i1
theorem l21Plays_t {r:l20Rd} {B k:Int} {f:FloFlow} (n:Int) (h:Ok B r) (hB:B≤40000) (hf:FI k f) (hn:n≤200) (hk:k+n≤400) (hk0:k≤400) :
  Tot (fun v=>Ok (B+2+20*200) v.2.2∧(v.1.length:Int)≤(if 0≤n then n else 0)∧v.2.1=fRuns f v.1) (s_l21Plays (r,f,n)):=by
 simp only [s_l21Plays];refine Tot.bd (pickP 4 h (by omega) (by omega)) fun v1 h1 => ?_
 refine Tot.bd (P:=fun v=>Ok (B+2+20*200) v.1∧(v.2.2.2.length:Int)≤(if 0≤n then n else 0)∧v.2.1=fRuns f v.2.2.2) ?_ fun v h=>Tot.sm h
 refine Tot.iter (fun s:l20Rd×FloFlow×FloFlow×List EvEvent×Int×Int=>s.2.1=fRuns f s.2.2.2.1∧(0≤s.2.2.2.2.2∧(s.2.2.2.1.length:Int)=s.2.2.2.2.2∧s.2.2.2.2.2≤(if 0≤n then n else 0))∧Ok (B+1+20*s.2.2.2.2.2) s.1∧(0≤s.2.2.2.2.1∧s.2.2.2.2.1≤22)) (fun s=>(n-s.2.2.2.2.2).toNat) (fun s hs' => ?_) ⟨rfl,⟨by simp,by simp,by simp only;split<;>omega⟩,h1.2.2.mono (by simp),by simp,by simp⟩;obtain ⟨rd,g,z,out,st,i⟩:=s;obtain ⟨hg,⟨i0,il,i1⟩,ho,⟨t0,t1⟩⟩:=hs';simp only at hg i0 il i1 ho t0 t1;refine Tot.bd (P:=fun v=>v.1=rd∧v.2.1=g∧v.2.2.2.1=out∧(v.2.2.2.2=true→i<n)) (Tot.cnd (fun hc=>Tot.sm ⟨rfl,rfl,rfl,fun _=>by simpa using hc⟩) (fun _=>Tot.sm ⟨rfl,rfl,rfl,by simp⟩)) fun v3 h3 => ?_
 obtain ⟨rd3,g3,z3,out3,c3⟩:=v3;obtain ⟨e1,e2,e3,e4⟩:=h3;simp only at e1 e2 e3 e4;subst e1 e2 e3;refine Tot.cnd (fun hc => ?_) (fun _=>Tot.sm ⟨ho.mono (by split at i1<;>omega),by simp only;omega,hg⟩);have hin:=e4 hc;have hFI:FI (k+out3.length) g3:=by
  rw [hg];exact (fRuns_FI out3 f hf (by omega)).1
 have hfd:=hFI.fd;have hi200:i<200:=by omega
 simp only;refine Tot.bd (l21Event_t ho (by omega) hfd) fun v4 h4 => ?_
 refine Tot.bd (P:=fun v=>Ok (B+1+20*i+20) v.1∧v.2.1=g3∧v.2.2.2.1=out3∧(0≤v.2.2.2.2.2∧v.2.2.2.2.2≤22)) ?_ fun v15 h15 => ?_
 ·refine Tot.cnd (fun hst => ?_) (fun _ => ?_)
  ·have hst:st<22:=by simpa using hst
   have w1:w6 (st+1)=st+1:=w6_id (by omega) (by omega);simp only [w1];exact Tot.bd (l21Story_t st h4 (by omega) hfd) fun v5 h5=>Tot.sm ⟨h5.mono (by omega),rfl,rfl,by simp only;omega,by simp only;omega⟩
  ·refine Tot.bd (P:=fun v=>Ok (B+1+20*i+4) v.1∧v.2.1=g3∧v.2.2.2.1=out3) ?_ fun v7 h7 => ?_
   ·refine Tot.cnd (fun _ => ?_) (fun _=>Tot.sm ⟨h4.mono (by omega),rfl,rfl⟩);exact Tot.bd (pickP 16 h4 (by omega) (by omega)) fun v h=>Tot.sm ⟨h.2.2.mono (by omega),rfl,rfl⟩
   ·obtain ⟨rd7,g7,z7,out7,e7,c7⟩:=v7;obtain ⟨o7,a1,a2⟩:=h7;simp only at o7 a1 a2;subst a1 a2;refine Tot.cnd (fun _ => ?_) (fun _ => ?_)
    ·exact Tot.bd (l21Story_t 0 o7 (by omega) hfd) fun v5 h5=>Tot.sm ⟨h5.mono (by omega),rfl,rfl,by simp,by simp⟩
    ·refine Tot.bd (P:=fun v=>Ok (B+1+20*i+5) v.1∧v.2.1=g7∧v.2.2.2.1=out7) ?_ fun v10 h10 => ?_
     ·refine Tot.cnd (fun _=>Tot.cnd (fun _ => ?_) (fun _=>Tot.sm ⟨o7.mono (by omega),rfl,rfl⟩)) (fun _=>Tot.sm ⟨o7.mono (by omega),rfl,rfl⟩);exact Tot.bd (pickP 20 o7 (by omega) (by omega)) fun v h=>Tot.sm ⟨h.2.2.mono (by omega),rfl,rfl⟩
     ·obtain ⟨rd10,g10,z10,out10,e10,c10⟩:=v10;obtain ⟨o10,a1,a2⟩:=h10;simp only at o10 a1 a2;subst a1 a2;refine Tot.cnd (fun _ => ?_) (fun _ => ?_)
      ·exact Tot.bd (l21Given_t i o10 (by omega) hfd) fun v5 h5=>Tot.sm ⟨h5.mono (by omega),rfl,rfl,by simp only;omega,by simp only;omega⟩
      ·refine Tot.bd (P:=fun v=>Ok (B+1+20*i+6) v.1∧v.2.1=g10∧v.2.2.2.1=out10) ?_ fun v13 h13 => ?_
       ·refine Tot.cnd (fun _ => ?_) (fun _=>Tot.sm ⟨o10.mono (by omega),rfl,rfl⟩);exact Tot.bd (pickP 5 o10 (by omega) (by omega)) fun v h=>Tot.sm ⟨h.2.2.mono (by omega),rfl,rfl⟩
       ·obtain ⟨rd13,g13,z13,out13,e13,c13⟩:=v13;obtain ⟨o13,a1,a2⟩:=h13;simp only at o13 a1 a2;subst a1 a2;refine Tot.cnd (fun _ => ?_) (fun _=>Tot.sm ⟨o13.mono (by omega),rfl,rfl,by simp only;omega,by simp only;omega⟩);exact Tot.bd (l21Lively_t o13 (by omega) hfd) fun v5 h5=>Tot.sm ⟨h5.mono (by omega),rfl,rfl,by simp only;omega,by simp only;omega⟩
 ·obtain ⟨rd15,g15,z15,out15,e15,st15⟩:=v15;obtain ⟨o15,a1,a2,⟨b0,b1⟩⟩:=h15;simp only at o15 a1 a2 b0 b1;subst a1 a2;refine Tot.gd (show (out15.length+[e15].length)*24≤140737488355328 by simp only [List.length_singleton];split at i1<;>omega) ?_;have hst:=s_FloStep_ve g15 e15 hFI.sn;simp only [hst,bd_s];refine Tot.sm ?_;have w1:w6 (i+1)=i+1:=w6_id (by omega) (by omega);simp only [w1];refine ⟨⟨?_,⟨by simp only;omega,by simp only [List.length_append,List.length_singleton];omega,by simp only;split<;>omega⟩,o15.mono (by simp only;omega),b0,b1⟩,?_⟩
  ·simp only [fRuns,List.foldl_append,List.foldl_cons,List.foldl_nil];rw [hg];rfl
  ·show (n-(i+1)).toNat<(n-i).toNat;omega
theorem l21Begin_t {r:l20Rd} {B:Int} (h:Ok B r) (hB:B≤40000):Tot (fun v=>FI 0 v.1∧(∃ j a,v.1=floNew j a∧jobOk j=true∧(a.length:Int)=j.1∧∀ l,l∈a→logOk l=true)∧Ok (B+1100) v.2) (s_l21Begin r):=by
 simp only [s_l21Begin];refine Tot.bd (l20Job_t h (by omega)) fun v1 h1 => ?_
 have hS:=job_S h1.1;refine Tot.bd (l21Logs_t v1.1 h1.2 (by omega) (by omega) (by omega)) fun v2 h2 => ?_
 have hl:∀ l,l∈v2.1→logOk l=true:=fun l hl=>(h2.1.2 l hl).1
 have e1:s_FloNew_v (v1.1,v2.1)=some (floNew v1.1 v2.1):=s_FloNew_e ..;simp only [e1,bd_s];have hb:((v2.1.length:Int)==v1.1.1)=true:=by simpa using h2.1.1
 have ha:(v2.1.any fun l => !logOk l)=false:=by
  rw [List.any_eq_false];intro l hl';simp [hl l hl']
 have e2:floNew v1.1 v2.1=flo0 v1.1 v2.1 v1.1.1.toNat v1.1.2.1.toNat:=by
  simp only [floNew,h1.1,hb,ha,Bool.not_false,Bool.and_self,if_true]
 refine Tot.sm ⟨?_,⟨_,_,rfl,h1.1,h2.1.1,hl⟩,h2.2.mono (by omega)⟩;rw [e2];exact flo0_FI h1.1 h2.1.1 hl
theorem l21Flow_t {r:l20Rd} {B:Int} (h:Ok B r) (hB:B≤20000):Tot (fun v=>FI 70 v.1∧(∃ j a l,v.1=fRuns (floNew j a) l∧jobOk j=true∧(a.length:Int)=j.1∧(∀ l,l∈a→logOk l=true)∧l.length≤70)∧Ok (B+6000) v.2) (s_l21Flow r):=by
 simp only [s_l21Flow];refine Tot.bd (l21Begin_t h (by omega)) fun v1 h1 => ?_
 obtain ⟨h1,⟨j,a,e,hj,ha,hl⟩,ho⟩:=h1;refine Tot.bd (pickP 70 ho (by omega) (by omega)) fun v2 h2 => ?_
 refine Tot.bd (pickP 5 h2.2.2 (by omega) (by omega)) fun v3 h3 => ?_
 refine Tot.bd (Tot.ixT h3.1 (by simpa using h3.2.1)) fun v4 h4 => ?_
 have b4:0≤v4∧v4≤70:=by simp only [List.mem_cons,List.not_mem_nil,or_false] at h4;omega
 clear h4;refine Tot.bd (l21Plays_t v4 h3.2.2 (by omega) h1 (by omega) (by omega) (by omega)) fun v5 h5 => ?_
 obtain ⟨h5,h6,h7⟩:=h5;have hlen:(v5.1.length:Int)≤70:=by split at h6<;>omega
 refine Tot.sm ⟨?_,⟨j,a,v5.1,by rw [h7,e],hj,ha,hl,by omega⟩,h5.mono (by omega)⟩;rw [h7];exact (fRuns_FI v5.1 _ h1 (by omega)).1.mono (by omega)
theorem l20Win_t {r:l20Rd} {B:Int} (a:Int) (ha:1≤a) (h:Ok B r) (hB:B≤80000):Tot (fun v=>Ok (B+9) v.2) (s_l20Win (r,a)):=by
 simp only [s_l20Win];refine Tot.bd (pickP 40 h (by omega) (by omega)) fun v1 h1 => ?_
 refine Tot.bd (pickP 5 h1.2.2 (by omega) (by omega)) fun v2 h2 => ?_
 refine Tot.bd (Tot.ixT h2.1 (by simpa using h2.2.1)) fun v3 _ => ?_
 refine Tot.bd (pickP 4 h2.2.2 (by omega) (by omega)) fun v4 h4 => ?_
 refine Tot.bd (Tot.ixT h4.1 (by simpa using h4.2.1)) fun v5 _ => ?_
 refine Tot.bd (pickP a h4.2.2 (by omega) ha) fun v6 h6 => ?_
 refine Tot.bd (P:=fun v=>Ok (B+9) v.1) ?_ fun v h=>Tot.sm h
 refine Tot.cnd (fun _ => ?_) (fun _=>Tot.sm (h6.2.2.mono (by omega)));refine Tot.bd (pickP 2 h6.2.2 (by omega) (by omega)) fun v7 h7 => ?_
 refine Tot.cnd (fun _ => ?_) (fun _ => ?_)
 ·refine Tot.bd (pickP 3 h7.2.2 (by omega) (by omega)) fun v8 h8 => ?_
  exact Tot.bd (Tot.ixT h8.1 (by simpa using h8.2.1)) fun v9 _=>Tot.sm (h8.2.2.mono (by omega))
 ·refine Tot.bd (pickP 4 h7.2.2 (by omega) (by omega)) fun v8 h8 => ?_
  exact Tot.bd (Tot.ixT h8.1 (by simpa using h8.2.1)) fun v9 _=>Tot.sm (h8.2.2.mono (by omega))
theorem l20Agg_t {r:l20Rd} {B:Int} (a:Int) (ha:1≤a) (h:Ok B r) (hB:B≤80000):Tot (fun v=>Ok (B+12) v.2) (s_l20Agg (r,a)):=by
 simp only [s_l20Agg];refine Tot.bd (pickP 6 h (by omega) (by omega)) fun v1 h1 => ?_
 refine Tot.bd (P:=fun v=>Ok (B+7) v.1) ?_ fun v5 h5 => ?_
 ·refine Tot.iter (fun s:l20Rd×AggAgg×AggAgg×Int=>Ok (B+7-s.2.2.2) s.1∧(0≤s.2.2.2∧s.2.2.2≤5)) (fun s=>s.2.2.2.toNat) (fun s hs' => ?_) ⟨h1.2.2.mono (by simp only;omega),by simp only;omega,by simp only;omega⟩;obtain ⟨rd,z,g,i⟩:=s;obtain ⟨ho,i0,i1⟩:=hs';simp only at ho i0 i1;refine Tot.cnd (fun hc => ?_) (fun hc=>Tot.sm (ho.mono (by omega)));have hc:i>0:=by simpa using hc
  refine Tot.bd (pickP 19 ho (by omega) (by omega)) fun v3 h3 => ?_
  simp only [s_AggAdd_e,bd_s];have w1:w6 (i-1)=i-1:=w6_id (by omega) (by omega);simp only [w1];refine Tot.sm ⟨⟨h3.2.2.mono (by simp only;omega),by simp only;omega,by simp only;omega⟩,?_⟩;show (i-1).toNat<i.toNat;omega
 ·refine Tot.bd (pickP a h5 (by omega) ha) fun v6 h6 => ?_
  refine Tot.cnd (fun _=>Tot.sm (h6.2.2.mono (by omega))) (fun _ => ?_);refine Tot.bd (pickP 6 h6.2.2 (by omega) (by omega)) fun v7 h7 => ?_
  refine Tot.bd (Tot.ixT h7.1 (by simpa using h7.2.1)) fun v8 _ => ?_
  refine Tot.bd (pickP 4 h7.2.2 (by omega) (by omega)) fun v9 h9 => ?_
  have ho:=h9.2.2.mono (C:=B+12) (by omega);refine Tot.bd (P:=fun v=>Ok (B+12) v.1) ?_ fun v h=>Tot.sm h
  exact Tot.cnd (fun _=>Tot.sm ho) (fun _=>Tot.cnd (fun _=>Tot.sm ho) (fun _=>Tot.cnd (fun _=>Tot.sm ho) (fun _=>Tot.sm ho)))
theorem upd_len {α:Type} (l:List α) (n:Nat) (x:α) (h:n<l.length):(l.take n++x::l.drop (n+1)).length=l.length:=by
 rw [upd_set _ h,List.length_set]
structure CD (f:FloFlow) (c:CkpState):Prop where
 s:c.2.2.1.length=f.2.2.1.length
 t:c.2.2.2.1.length=f.2.2.2.1.length
 p:c.2.2.2.2.1.length=f.2.2.2.1.length
 pp:∀ s,s∈c.2.2.2.2.1→s.1.2.length≤2000∧s.2.length≤2000
 a:c.2.2.2.2.2.2.1.length=f.2.2.1.length
 z:c.2.2.2.2.2.2.2.length=f.2.2.2.1.length
 zz:∀ s,s∈c.2.2.2.2.2.2.2→s.1.2.length≤2000∧s.2.length≤2000
theorem FI.cd {k:Int} {f:FloFlow} (h:FI k f):CD f (fC f):=by
 have hc:=h.ok.ckp;have hS:=job_S hc.job;have e1:=hc.srcl;have e2:=hc.tskl;have e3:=hc.snpl;have e4:=hc.atl;have e5:=hc.ssl;have e6:((f.2.2.1.length:Nat):Int)=(fJ f).1:=h.ok.sl;have e7:((f.2.2.2.1.length:Nat):Int)=(fJ f).2.1:=h.ok.tl;refine ⟨by omega,by omega,by omega,?_,by omega,by omega,?_⟩
 ·intro s hs;obtain ⟨i,hi,rfl⟩:=List.mem_iff_getElem.1 hs;have:=pTsnap_sm hc.job (hc.snp i (by omega) hi);omega
 ·intro s hs;have:=pSnap_sm (hc.ss s hs);omega
theorem CD.sm {f:FloFlow} {c:CkpState} (h:CD f c) (hf:FD f):smC c:=by
 have h1:=h.s;have h2:=h.t;have h3:=h.p;have h4:=h.a;have h5:=h.z;have:=hf.s;have:=hf.t;exact ⟨by omega,by omega,by omega,fun s hs=>by have:=h.pp s hs;omega,by omega,by omega,fun s hs=>by have:=h.zz s hs;omega⟩
theorem i_marksOk_e (j:JobJob) (m:List Int) (h:m.length<1000000000):i_marksOk (j,m)=some ((m.length:Int)==j.1&&m.all isTm):=by
 simp only [i_marksOk];rw [cl_e,cF_int m i_marksOk__1 (fun x => !isTm x) (fun x _=>by simp only [i_marksOk__1,i_isTime_e,bd_s];rfl) h];have e:(!m.any fun x => !isTm x)=m.all isTm:=by rw [List.not_any_eq_all_not];simp
 simp only [bd_s,e];cases (m.length:Int)==j.1<;>rfl
theorem low_first (x:Int) (l:List Int) (h:x≤1000):lowI (x::l)=l.foldl (fun n m=>if m<n then m else n) x:=by
 simp only [lowI,List.foldl_cons];split
 ·rfl
 ·have:x=1000:=by omega
  rw [this]
theorem g_Min_e (l:List Int) (hl:0<l.length) (h:l.length<1000000000) (hb:∀ m,m∈l→m≤1000):g_Min_int l=some (lowI l):=by
 cases l with
 | nil=>simp at hl
 | cons x l =>
  have hd:decide ((((x::l).length:Nat):Int)<1)=false:=by simp only [List.length_cons,decide_eq_false_iff_not];omega
  have h0:ix (x::l) (0:Int)=some x:=rfl;simp only [g_Min_int,hd,cnd_f,h0,bd_s];have key:∀ k i:Nat,i+k=(x::l).length→∀ n:Int,iter (A:=Int×Int) (B:=Int) (fun v2=>cnd (decide (v2.2<(((x::l).length:Nat):Int))) (bd (ix (x::l) v2.2) fun v3=>some (.inl ((if v3<v2.1 then v3 else v2.1),w6 (v2.2+1)))) (some (.inr v2.1))) (n,(i:Int))=some (((x::l).drop i).foldl (fun n m=>if m<n then m else n) n):=by
   intro k;induction k with
   | zero =>
    intro i hi n;rw [it_u];have hd:decide ((i:Int)<(((x::l).length:Nat):Int))=false:=by simp only [decide_eq_false_iff_not];omega
    simp only [hd,cnd_f,bd_s,cs_r];rw [List.drop_of_length_le (by omega)];rfl
   | succ k ih =>
    intro i hi n;have hlt:i<(x::l).length:=by omega
    rw [it_u];simp only [lt_d hlt,cnd_t,ix_t hlt,bd_s,cs_l,w6_s hlt h];have:=ih (i+1) (by omega) (if (x::l)[i]<n then (x::l)[i] else n);rw [List.drop_eq_getElem_cons hlt,List.foldl_cons];exact this
  have:=key l.length 1 (by simp;omega) x;have e:((1:Nat):Int)=1:=rfl;rw [e] at this;rw [this,low_first x l (hb x (List.mem_cons_self ..))];rfl
theorem i_CkpSnap_ok_e (j:JobJob) (s:CkpSnap) (h:s.1.2.length<1000000000∧s.2.length<1000000000):i_CkpSnap_ok (s,j)=some (pSnap j s):=by
 simp only [i_CkpSnap_ok,i_OpOk_e j s.1 h.1,i_marksOk_e j s.2 h.2,bd_s,pSnap];cases hp:pOp j s.1
 ·rfl
 have hS:=(job_S (pOp_job hp)).1;cases hl:(s.2.length:Int)==j.1
 ·rfl
 have hl':(s.2.length:Int)=j.1:=by simpa using hl
 cases hm:s.2.all isTm
 ·rfl
 have hb:∀ m,m∈s.2→m≤1000:=fun m hm'=>(inR_iff.1 (List.all_eq_true.1 hm m hm')).2
 simp only [Bool.and_self,cnd_t,g_Min_e s.2 (by omega) h.2 hb,bd_s,Bool.true_and]
theorem i_CkpSnap_empty_e (s:CkpSnap):i_CkpSnap_empty s=some (snEmpty s):=by
 simp only [i_CkpSnap_empty,snEmpty];have e:∀ n:Nat,((n:Int)==0)=(n==0):=by
  intro n;rw [Bool.eq_iff_iff];simp
 rw [e,e];cases s.1.1==0<;>(try rfl);cases s.1.2.length==0<;>rfl
theorem i_CkpSafe_ok_e (j:JobJob) (s:CkpSafe) (h:s.2.1.length<1000000000∧s.2.2.length<1000000000) (hs:∀ x,x∈s.2.2→x.1.2.length<1000000000∧x.2.length<1000000000):i_CkpSafe_ok (s,j)=some (pSafe j s):=by
 have e1:=cF_int s.2.1 i_CkpSafe_ok_1 (fun n => !inR n 0 40) (fun x _=>by simp only [i_CkpSafe_ok_1,i_in_e,bd_s]) h.1;have e2:=cF_CkpSnap s.2.2 (fun q=>i_CkpSafe_ok_2 (q,j)) (fun q => !pSnap j q) (fun x hx=>by simp only [i_CkpSafe_ok_2,i_CkpSnap_ok_e j x (hs x hx),bd_s]) h.2;have n1:(!s.2.1.any fun n => !inR n 0 40)=s.2.1.all fun n=>inR n 0 40:=by rw [List.not_any_eq_all_not];simp
 have n2:(!s.2.2.any fun q => !pSnap j q)=s.2.2.all (pSnap j):=by rw [List.not_any_eq_all_not];simp
 simp only [i_CkpSafe_ok,i_in_e,bd_s,cl_e,e1,e2,n1,n2,pSafe];cases inR s.1 0 900<;>(try rfl);cases (s.2.1.length:Int)==j.1<;>(try rfl);cases (s.2.2.length:Int)==j.2.1<;>cases s.2.1.all (fun n=>inR n 0 40)<;>rfl
theorem i_CkpOk_e (j:JobJob) (c:CkpState) (h:smC c):i_CkpOk (j,c)=some (pCkp j c):=by
 obtain ⟨h1,h2,h3,h4,h5,h6,h7⟩:=h;have e0:=i_CkpSafe_ok_e j c.2.2.2.2.2 ⟨by omega,by omega⟩ (fun x hx=>by have:=h7 x hx;omega);simp only [i_CkpOk,i_JobOk_e,e0,i_in_e,bd_s,bd_cnd,pCkp,bne_b];cases hj:jobOk j<;>(try rfl);cases h4':pSafe j c.2.2.2.2.2
 ·simp only [Bool.not_true,Bool.not_false,cnd_f,cnd_t,Bool.and_false,Bool.false_and]
 cases inR c.1 c.2.2.2.2.2.1 900<;>(try rfl);cases ho:c.2.1&&c.1==c.2.2.2.2.2.1
 rotate_left
 ·simp only [bae] at ho;simp only [ho.1,ho.2];rfl
 have e:∀ (x y:Option Bool),cnd c.2.1 (cnd (c.1==c.2.2.2.2.2.1) x y) y=y:=by
  intro x y;cases hc:c.2.1
  ·rfl
  ·rw [hc] at ho;simp only [Bool.true_and] at ho;rw [ho];rfl
 simp only [Bool.not_true,Bool.not_false,cnd_f,cnd_t,e];cases hl1:(c.2.2.1.length:Int)==j.1<;>(try rfl);cases hl2:(c.2.2.2.1.length:Int)==j.2.1<;>(try rfl);cases hl3:(c.2.2.2.2.1.length:Int)==j.2.1<;>(try rfl);have hl:c.2.2.2.2.1.length=c.2.2.2.1.length:=by
  simp only [beq_iff_eq] at hl2 hl3;omega
 simp only [Bool.not_true,Bool.not_false,cnd_f,cnd_t,Bool.true_and];rw [each_f (A:=JobJob×(CkpState×Int)) (C:=JobJob×CkpState) c.2.2.1 (pSrc c.2.1) (fun i=>(j,c,i)) (j,c) (by omega) (by simp) (fun i hi=>by
  simp only [lt_d hi,ix_t hi,w6_s hi (show c.2.2.1.length<1000000000 by omega),bd_s,cnd_t,pSrc];rcases Bool.eq_false_or_eq_true (inR c.2.2.1[i] (-1) 40) with h|h<;>rcases Bool.eq_false_or_eq_true c.2.1 with h'|h'<;>rcases Bool.eq_false_or_eq_true (c.2.2.1[i] == -1) with h''|h''<;>simp [h,h',h''])]
 cases c.2.2.1.all (pSrc c.2.1)<;>(try rfl);simp only [if_true,cs_r,bd_s,Bool.true_and];rw [all2_f (A:=JobJob×(CkpState×Int)) (C:=PUnit) c.2.2.2.1 c.2.2.2.2.1 (pTsnap j c.2.1) hl (fun i=>(j,c,i)) () (by simp) (fun i hi=>by
  have hi3:i<c.2.2.2.2.1.length:=by omega
  have hsm:=h4 _ (List.getElem_mem hi3);have es:=i_CkpSnap_ok_e j c.2.2.2.2.1[i] ⟨by omega,by omega⟩;simp only [lt_d hi,ix_t hi,ix_t hi3,w6_s hi (show c.2.2.2.1.length<1000000000 by omega),bd_s,cnd_t,es,i_CkpSnap_empty_e,pTsnap];rcases Bool.eq_false_or_eq_true c.2.2.2.1[i] with h|h
  ·rcases Bool.eq_false_or_eq_true c.2.1 with h'|h'<;>rcases Bool.eq_false_or_eq_true (pSnap j c.2.2.2.2.1[i]) with h''|h''<;>simp [h,h',h'']
  ·rcases Bool.eq_false_or_eq_true (snEmpty c.2.2.2.2.1[i]) with h''|h''<;>simp [h,h''])]
 cases all2 (pTsnap j c.2.1) c.2.2.2.1 c.2.2.2.2.1<;>rfl
theorem i_told_e (a:List PanPane) (b:List LatPair) (m:Int) (hm:m≤1500):i_told (a,b,m)=some (decide ((a.length:Int)≤m)&&decide ((b.length:Int)≤m)&&a.all pPan&&b.all pLat):=by
 simp only [i_told];cases h1:decide ((a.length:Int)≤m)
 ·rfl
 cases h2:decide ((b.length:Int)≤m)
 ·rfl
 have h1':(a.length:Int)≤m:=by simpa using h1
 have h2':(b.length:Int)≤m:=by simpa using h2
 have e1:=cF_PanPane a i_told__1 (fun x => !pPan x) (fun x _=>by simp only [i_told__1,i_PanOk_e,bd_s]) (by omega);have e2:=cF_LatPair b i_told__2 (fun x => !pLat x) (fun x _=>by simp only [i_told__2,i_LatOk_e,bd_s]) (by omega);have n1:(a.any fun x => !pPan x) = !a.all pPan:=by rw [List.not_all_eq_any_not]
 have n2:(b.any fun x => !pLat x) = !b.all pLat:=by rw [List.not_all_eq_any_not]
 simp only [cl_e,e1,e2,n1,n2,bd_s,Bool.not_not,cnd_t,Bool.and_self,Bool.true_and];cases a.all pPan<;>rfl
theorem i_TskTxn_ok_e (x:TskTxn):i_TskTxn_ok x=some (pTxn x):=by
 simp only [i_TskTxn_ok,i_in_e,bd_s,i_told_e _ _ 1500 (Int.le_refl _),pTxn];cases inR x.1 0 900<;>rfl
theorem i_TskIn_ok_e (j:JobJob) (c:TskIn) (hj:j.2.2.2.2.2.2.2.2.2≤4):i_TskIn_ok (c,j)=some (pIn j c):=by
 simp only [i_TskIn_ok,i_isTime_e,bd_s,pIn];cases h1:decide ((c.1.length:Int)≤j.2.2.2.2.2.2.2.2.2)
 ·rfl
 have h1':(c.1.length:Int)≤j.2.2.2.2.2.2.2.2.2:=by simpa using h1
 have e1:=cF_ItmItem c.1 i_TskIn_ok_1 (fun x => !itmOk x) (fun x _=>by simp only [i_TskIn_ok_1,i_ItmOk_e,bd_s]) (by omega);have n1:(c.1.any fun x => !itmOk x) = !c.1.all itmOk:=by rw [List.not_all_eq_any_not]
 simp only [cl_e,e1,n1,bd_s,Bool.not_not,cnd_t,Bool.true_and];cases inR c.2.1 0 1000<;>rfl
theorem i_TskHeld_e (t:TskTask) (h:t.1.length<1000000000):i_TskHeld t=some (tHeld t):=by
 simp only [i_TskHeld];rw [fold_i t.1 (fun n c=>if c.2.2 then n+1 else n) (fun i n=>0≤n∧n≤(i:Int)) (fun n i=>(n,i)) (fun n=>n) 0 (by simp) (fun s=>by simp) (fun s i hi hI=>by
  refine ⟨?_,?_⟩
  ·split<;>omega
  ·have e:w6 (s+1)=s+1:=w6_id (by omega) (by omega);simp only [lt_d hi,ix_t hi,w6_s hi h,bd_s,cnd_t,cnd_if];by_cases hc:t.1[i].2.2=true<;>simp [hc,e])]
 rfl
theorem i_marks_e (t:TskTask) (h:t.1.length<1000000000):i_TskTask_marks t=some (t.1.map fun c=>c.2.1):=by
 simp only [i_TskTask_marks];have hm:∀ (l:List TskIn) (o:List Int),l.foldl (fun o c=>o++[c.2.1]) o=o++l.map fun c=>c.2.1:=by
  intro l;induction l with
  | nil=>intro o;simp
  | cons c l ih=>intro o;rw [List.foldl_cons,ih];simp
 rw [fold_i t.1 (fun o c=>o++[c.2.1]) (fun i o=>o.length=i) (fun n i=>(n,i)) (fun n=>n) [] (by simp) (fun s=>by simp) (fun s i hi hI=>by
  refine ⟨by simp [hI],?_⟩;have hg:(s.length+[t.1[i].2.1].length)*8≤140737488355328:=by simp only [List.length_cons,List.length_nil];omega
  simp only [lt_d hi,ix_t hi,w6_s hi h,bd_s,cnd_t,gd_t hg])]
 simp only [bd_s,hm,List.nil_append]
theorem lowm_map (l:List TskIn):∀ n:Int,(l.map fun c=>c.2.1).foldl (fun n m=>if m<n then m else n) n=l.foldl (fun n c=>if c.2.1<n then c.2.1 else n) n:=by
 induction l with
 | nil=>intro n;rfl
 | cons c l ih=>intro n;rw [List.map_cons,List.foldl_cons,List.foldl_cons,ih]
theorem lowm_le (l:List TskIn):∀ n:Int,l.foldl (fun n c=>if c.2.1<n then c.2.1 else n) n≤n:=by
 induction l with
 | nil=>intro n;exact Int.le_refl _
 | cons c l ih =>
  intro n;rw [List.foldl_cons];have:=ih (if c.2.1<n then c.2.1 else n);split at this<;>(split<;>omega)
theorem i_TskLow_e (t:TskTask) (h:t.1.length<100000) (hb:∀ c,c∈t.1→c.2.1≤1000):i_TskLow t=some (tLow t):=by
 have hg:((t.1.map fun c=>c.2.1).length+[(1000:Int)].length)*8≤140737488355328:=by simp only [List.length_map,List.length_cons,List.length_nil];omega
 have hmin:=g_Min_e ((t.1.map fun c=>c.2.1)++[1000]) (by simp) (by simp;omega) (fun m hm=>by
  rcases lma.1 hm with hm|hm
  ·obtain ⟨c,hc,rfl⟩:=List.mem_map.1 hm;exact hb c hc
  ·simp at hm;omega)
 have e:lowI ((t.1.map fun c=>c.2.1)++[1000])=tLow t:=by
  simp only [lowI,tLow,List.foldl_append,lowm_map,List.foldl_cons,List.foldl_nil];have:=lowm_le t.1 1000;split<;>omega
 simp only [i_TskLow,i_marks_e t (by omega),bd_s,gd_t hg,hmin,e]
theorem i_TskOk_e (j:JobJob) (t:TskTask) (h:t.2.1.2.length<1000000000):i_TskOk (j,t)=some (pTsk j t):=by
 simp only [i_TskOk,i_OpOk_e j t.2.1 h,i_in_e,bd_s,bd_cnd,pTsk,bne_b];cases h1:pOp j t.2.1
 ·rfl
 have hj:=pOp_job h1;have hr:=job_R hj;have hs:=(job_S hj).1;cases h2:(t.1.length:Int)==j.1
 ·rfl
 have hl:t.1.length<100000:=by simp only [beq_iff_eq] at h2;omega
 have e1:=cF_TskIn t.1 (fun q=>i_TskOk__1 (q,j)) (fun c => !pIn j c) (fun x _=>by simp only [i_TskOk__1,i_TskIn_ok_e j x (by omega),bd_s]) (by omega);have n1:(t.1.any fun x => !pIn j x) = !t.1.all (pIn j):=by rw [List.not_all_eq_any_not]
 simp only [cl_e,e1,n1,bd_s,Bool.not_true,Bool.not_false,cnd_f,cnd_t,Bool.true_and];cases h3:t.1.all (pIn j)
 ·simp
 have hb:∀ c,c∈t.1→c.2.1≤1000:=fun c hc=>by
  have:=List.all_eq_true.1 h3 c hc;simp only [pIn,bae] at this;exact (inR_iff.1 this.1.2).2
 simp only [i_TskHeld_e t (by omega),i_TskLow_e t hl hb,i_TskTxn_ok_e,bd_s,Bool.not_true,cnd_f];cases decide (tHeld t<(t.1.length:Int))<;>cases inR t.2.2.1 0 900<;>cases t.2.1.1==tLow t<;>cases t.2.2.2.1==0<;>cases pTxn t.2.2.2<;>rfl
def scanB {α S:Type} (p:S→α→Bool) (g:S→α→S):List α→S→Bool
 | [],_=>true
 | x::r,s=>p s x&&scanB p g r (g s x)
theorem scan_f {α A C S:Type} (l:List α) (p:S→α→Bool) (g:S→α→S) {f:A→Option (A⊕(Bool⊕C))} (st:S→Int→A) (c:C) (s0:S) (h0:∀ s,f (st s l.length)=some (.inr (.inr c))) (hs:∀ (s:S) (i:Nat) (h:i<l.length),f (st s i)=some (if p s l[i] then .inl (st (g s l[i]) ((i:Int)+1)) else .inr (.inl false))):iter f (st s0 0)=some (if scanB p g l s0 then .inr c else .inl false):=by
 have key:∀ k i:Nat,i+k=l.length→∀ s,iter f (st s i)=some (if scanB p g (l.drop i) s then .inr c else .inl false):=by
  intro k;induction k with
  | zero =>
   intro i h s;rw [it_u,show i=l.length by omega,h0];simp [scanB]
  | succ k ih =>
   intro i h s;have hi:i<l.length:=by omega
   rw [it_u,hs s i hi,List.drop_eq_getElem_cons hi];cases hp:p s l[i]
   ·simp [scanB,hp]
   ·simp only [if_true,bd_s,cs_l,scanB,hp,Bool.true_and];exact ih (i+1) (by omega) _
 have:=key l.length 0 (by omega) s0;simpa using this
theorem rise_scan (l:List TskTxn):∀ n:Int,scanB (fun n (x:TskTxn)=>pTxn x&&decide (n<x.1)) (fun _ x=>x.1) l n=rise n l:=by
 induction l with
 | nil=>intro n;rfl
 | cons x l ih=>intro n;simp only [scanB,rise,ih]
theorem i_FloSink_ok_e (s:FloSink) (h:s.1.length<1000000000):i_FloSink_ok s=some (pSink s):=by
 simp only [i_FloSink_ok,i_in_e,i_told_e _ _ 1500 (Int.le_refl _),bd_s,bd_cnd,i_TskTxn_ok_e];rw [scan_f (A:=FloSink×(Int×Int)) (C:=FloSink) s.1 (fun n (x:TskTxn)=>pTxn x&&decide (n<x.1)) (fun _ x=>x.1) (fun n i=>(s,n,i)) s s.2.1 (fun n=>by simp) (fun n i hi=>by
  have e:decide (s.1[i].1≤n) = !decide (n<s.1[i].1):=by by_cases h:n<s.1[i].1<;>simp [h]<;>omega
  simp only [lt_d hi,ix_t hi,w6_s hi h,bd_s,cnd_t,e];cases pTxn s.1[i]
  ·rfl
  ·cases decide (n<s.1[i].1)<;>rfl),rise_scan]
 simp only [pSink];cases rise s.2.1 s.1
 ·simp
 ·simp only [if_true,bd_s,cs_r];cases decide ((s.1.length:Int)≤12)<;>cases inR s.2.1 0 900<;>cases decide ((s.2.2.1.length:Int)≤1500)<;>cases decide ((s.2.2.2.length:Int)≤1500)<;>cases s.2.2.1.all pPan<;>cases s.2.2.2.all pLat<;>rfl
theorem tsk_split (f:FloFlow) (hl:(fK f).length=(fT f).length):(List.range (fT f).length).all (tskAt f)=((fT f).all (fun t=>pTsk (fJ f) t && !decide (t.2.2.1>(fC f).1))&&(fK f).all pSink):=by
 rw [Bool.eq_iff_iff,bae,List.all_eq_true,List.all_eq_true,List.all_eq_true];constructor
 ·intro h;refine ⟨fun t ht => ?_,fun s hs => ?_⟩
  ·obtain ⟨i,hi,rfl⟩:=List.getElem_of_mem ht;have:=h i (List.mem_range.2 hi);have h2:i<(fK f).length:=by omega
   simp only [tskAt,List.getElem?_eq_getElem hi,List.getElem?_eq_getElem h2,bae] at this;simp only [bae];exact this.1
  ·obtain ⟨i,hi,rfl⟩:=List.getElem_of_mem hs;have h2:i<(fT f).length:=by omega
   have:=h i (List.mem_range.2 h2);simp only [tskAt,List.getElem?_eq_getElem hi,List.getElem?_eq_getElem h2,bae] at this;exact this.2
 ·rintro ⟨h1,h2⟩ i hi;have hi:=List.mem_range.1 hi;have hk:i<(fK f).length:=by omega
  have a:=h1 _ (List.getElem_mem hi);have b:=h2 _ (List.getElem_mem hk);simp only [tskAt,List.getElem?_eq_getElem hi,List.getElem?_eq_getElem hk,bae];simp only [bae] at a;exact ⟨a,b⟩
structure smF (f:FloFlow):Prop where
 ckp:smC (fC f)
 rows:∀ t,t∈fT f→t.2.1.2.length<1000000000
 ready:∀ s,s∈fK f→s.1.length<1000000000
theorem i_FloOk_e (f:FloFlow) (h:smF f):i_FloOk f=some (pFlo f):=by
 simp only [i_FloOk,i_CkpOk_e _ _ h.ckp,i_in_e,bd_s,bd_cnd,pFlo,bne_b];cases h0:pCkp f.1 f.2.2.2.2.2
 ·rfl
 have hj:=pCkp_job h0;have hs:=job_S hj;have hsf:((f.2.2.2.2.2.2.2.2.2.2.2.1.length:Nat):Int)=f.1.1:=(pSafe_len (pCkp_safe h0)).1;cases h1:(f.2.1.length:Int)==f.1.1
 ·rfl
 cases h2:(f.2.2.1.length:Int)==f.1.1
 ·rfl
 cases h3:(f.2.2.2.1.length:Int)==f.1.2.1
 ·rfl
 cases h4:(f.2.2.2.2.1.length:Int)==f.1.2.1
 ·rfl
 simp only [beq_iff_eq] at h1 h2 h3 h4;have hl:f.2.1.length<1000000000:=by omega
 have hl2:f.2.2.2.1.length<1000000000:=by omega
 have hl3:f.2.2.2.2.1.length<1000000000:=by omega
 rw [tsk_split f (by show f.2.2.2.2.1.length=f.2.2.2.1.length;omega)];simp only [Bool.not_true,Bool.not_false,cnd_f,cnd_t,Bool.true_and];rw [all_f (A:=FloFlow×(JobJob×Int)) (C:=FloFlow×JobJob) (fun i=>(f,f.1,i)) f.2.1.length (c:=(f,f.1)) (srcAt f) (by simp) (fun i hi=>by
  have i2:i<f.2.2.1.length:=by omega
  have i3:i<f.2.2.2.2.2.2.2.2.2.2.2.1.length:=by omega
  simp only [lt_d hi,ix_t hi,ix_t i2,ix_t i3,i_LogOk_e,w6_s hi hl,bd_s,cnd_t,srcAt,List.getElem?_eq_getElem hi,List.getElem?_eq_getElem i2,List.getElem?_eq_getElem i3];cases logOk f.2.1[i]
  ·rfl
  cases inR f.2.2.1[i].1 0 f.2.1[i].length
  ·rfl
  cases decide (f.2.2.2.2.2.2.2.2.2.2.2.1[i]>(f.2.1[i].length:Int))<;>cases inR f.2.2.1[i].2 0 f.2.2.2.2.2.1<;>rfl)]
 cases (List.range f.2.1.length).all (srcAt f)
 ·rfl
 simp only [if_true,cs_r,bd_s,Bool.true_and];rw [each_f (A:=FloFlow×(JobJob×Int)) (C:=FloFlow) f.2.2.2.1 (fun t=>pTsk f.1 t && !decide (t.2.2.1>f.2.2.2.2.2.1)) (fun i=>(f,f.1,i)) f hl2 (by simp) (fun i hi=>by
  have hr:=h.rows _ (List.getElem_mem hi);simp only [lt_d hi,ix_t hi,i_TskOk_e _ _ hr,w6_s hi hl2,bd_s,cnd_t];cases pTsk f.1 f.2.2.2.1[i]
  ·rfl
  cases decide (f.2.2.2.1[i].2.2.1>f.2.2.2.2.2.1)<;>rfl)]
 have e1:=cF_FloSink f.2.2.2.2.1 i_FloOk__1 (fun s => !pSink s) (fun x hx=>by simp only [i_FloOk__1,i_FloSink_ok_e x (h.ready x hx),bd_s]) hl3;have n1:(f.2.2.2.2.1.any fun x => !pSink x) = !f.2.2.2.2.1.all pSink:=by rw [List.not_all_eq_any_not]
 cases f.2.2.2.1.all (fun t=>pTsk f.1 t && !decide (t.2.2.1>f.2.2.2.2.2.1))
 ·rfl
 ·simp only [if_true,bd_s,cs_r,cl_e,e1,n1,Bool.not_not,Bool.true_and]
def wt4:ItmItem→Int:=fun x=>if x.1==1 then 4 else 0
theorem wt4_w:Wt wt4 0:=⟨fun x=>by simp only [wt4];split<;>omega,by omega,fun x h=>by simp [wt4,h]⟩
theorem wt4_le (x:ItmItem):wt4 x≤4:=by simp only [wt4];split<;>omega
def DI (C:Int) (f:FloFlow):Prop:=FG wt4 (C-uns wt4 (fL f) (fS f)) f
theorem wsum4 (q:List ItmItem):wsum wt4 q≤wsum wt2 q+2*q.length:=by
 induction q with
 | nil=>simp [wsum]
 | cons x q ih =>
  have:=wt4_le x;simp only [wsum,List.foldr_cons,wt2,List.length_cons] at ih ⊢;omega
theorem qwt4 (l:List TskIn) (o:OpState×Int×TskTxn) (m:Nat) (h:∀ c,c∈l→c.1.length≤m):qwt wt4 (l,o)≤qwt wt2 (l,o)+2*(m*l.length):=by
 induction l with
 | nil=>simp [qwt]
 | cons c l ih =>
  have h1:=ih fun c hc=>h c (List.mem_cons_of_mem _ hc)
  have h2:=h c (List.mem_cons_self ..);have h3:=wsum4 c.1;have e:(m:Int)*((l.length+1:Nat):Int)=m*l.length+m:=by
   have:((l.length+1:Nat):Int)=(l.length:Int)+1:=by omega
   rw [this,Int.mul_add,Int.mul_one]
  simp only [qwt,List.foldr_cons,List.length_cons] at h1 ⊢;rw [e];omega
theorem wsum_len (q:List ItmItem):wsum wt4 q≤4*q.length:=by
 induction q with
 | nil=>simp [wsum]
 | cons x q ih=>have:=wt4_le x;simp only [wsum,List.foldr_cons,List.length_cons] at ih ⊢;omega
theorem uns_len:∀ (lg:List (List ItmItem)) (sr:List WinWin),(∀ l,l∈lg→l.length≤40)→uns wt4 lg sr≤160*lg.length
 | [],_,_=>by simp [uns]
 | _::_,[],_=>by simp only [uns,List.length_cons];omega
 | l::lg,s::sr,h=>by
  have:=uns_len lg sr fun l hl=>h l (List.mem_cons_of_mem _ hl)
  have h1:=h l (List.mem_cons_self ..);have h2:=wsum_len (l.drop s.1.toNat);simp only [List.length_drop] at h2;simp only [uns,List.length_cons];omega
theorem FI.di {k:Int} {f:FloFlow} (h:FI k f):DI (2*k+504) f:=by
 obtain ⟨n1,n2,n3,n4,_,_⟩:=h.ok.lens;have hu:=uns_len (fL f) (fS f) h.ok.log_sm;have hun:=uns_nn wt4_w.nn (fL f) (fS f);refine ⟨h.ok,?_,fun i a b c=>(h.snp i a b c).mono (by omega),fun s hs=>(h.sfs s hs).mono (by omega),h.src⟩;intro t ht;have hti:=h.tsk t ht;have hsm:=pTsk_sm (h.ok.tsk t ht).1;refine ⟨hti.ok,hti.op.mono ?_,hti.wl,hti.qw⟩;have hq:=qwt4 t.1 t.2 4 hsm.2.2.2.2;have h3:=hsm.2.2.2.1;have e:((4:Nat):Int)*(t.1.length:Int)≤12:=by omega
 have e2:qwt wt4 t≤qwt wt2 t+2*(((4:Nat):Int)*(t.1.length:Int)):=hq;omega
theorem DI.ok {C:Int} {f:FloFlow} (h:DI C f):FloP f:=FG.ok h
structure DJ (C:Int) (j:JobJob) (lg:List (List ItmItem)) (f:FloFlow):Prop where
 di:DI C f
 job:f.1=j
 log:f.2.1=lg
theorem DJ.src {C:Int} {j:JobJob} {lg:List (List ItmItem)} {f:FloFlow} (h:DJ C j lg f) (i:Int):DJ C j lg (fSrc f i):=by
 have hu:=uns_src (b:=4) wt4_w.nn wt4_le h.di.ok i;have hw:∀ N,wt4 (3,0,0,0,N)=0:=fun _=>rfl
 have:=src_ok (w:=wt4) (K:=C-uns wt4 (fL f) (fS f)) (K':=C-uns wt4 (fL f) (fS (fSrc f i))) (by omega) (fun N=>by rw [hw];omega) h.di i (by omega);obtain ⟨h1,h2,h3⟩:=this;refine ⟨?_,h2.trans h.job,h3.trans h.log⟩;have h3':fL (fSrc f i)=fL f:=h3;unfold DI;rw [h3'];exact h1
theorem fTask_S (f:FloFlow) (i c:Int):(fTask f i c).2.2.1=f.2.2.1:=by
 simp only [fTask];split
 ·rfl
 ·split<;>rfl
theorem DJ.tsk {C:Int} (hC:C≤1000) {j:JobJob} {lg:List (List ItmItem)} {f:FloFlow} (h:DJ C j lg f) (i c:Int):DJ C j lg (fTask f i c):=by
 have hun:=uns_nn wt4_w.nn (fL f) (fS f);obtain ⟨h1,h2,h3⟩:=task_ok wt4_w h.di (by omega) i c;refine ⟨?_,h2.trans h.job,h3.trans h.log⟩;have h3':fL (fTask f i c)=fL f:=h3;have h4':fS (fTask f i c)=fS f:=fTask_S f i c;unfold DI;rw [h3',h4'];exact h1.mono (by omega)
def rCkp (f:FloFlow):FloFlow:=(f.1,f.2.1,f.2.2.1,f.2.2.2.1,f.2.2.2.2.1,(pCkpSave f.1 (pCkpAsk f.1 (fC f))).1)
theorem DJ.ckp {C:Int} {j:JobJob} {lg:List (List ItmItem)} {f:FloFlow} (h:DJ C j lg f):DJ C j lg (rCkp f):=⟨save_ok (ask_ok h.di),h.job,h.log⟩
theorem l20Pane_t {r:l20Rd} {B:Int} (a:Int) (ha:1≤a) (h:Ok B r) (hB:B≤70000):Tot (fun v=>Ok (B+40) v.2) (s_l20Pane (r,a)):=by
 simp only [s_l20Pane];refine Tot.bd (pickP 3 h (by omega) (by omega)) fun v1 h1 => ?_
 refine Tot.bd (pickP 3 h1.2.2 (by omega) (by omega)) fun v2 h2 => ?_
 refine Tot.bd (Tot.ixT h2.1 (by simpa using h2.2.1)) fun v3 _ => ?_
 refine Tot.bd (l20Agg_t 99 (by omega) h2.2.2 (by omega)) fun v4 h4 => ?_
 refine Tot.bd (pickP 19 h4 (by omega) (by omega)) fun v5 h5 => ?_
 simp only [s_AggAdd_e,bd_s];refine Tot.bd (pickP 2 h5.2.2 (by omega) (by omega)) fun v7 h7 => ?_
 refine Tot.bd (P:=fun v=>Ok (B+17) v.1) ?_ fun v9 h9 => ?_
 ·refine Tot.cnd (fun _ => ?_) (fun _=>Tot.sm (h7.2.2.mono (by omega)));exact Tot.bd (pickP 3 h7.2.2 (by omega) (by omega)) fun v h=>Tot.sm (h.2.2.mono (by omega))
 refine Tot.bd (pickP 5 h9 (by omega) (by omega)) fun v10 h10 => ?_
 refine Tot.bd (P:=fun v=>Ok (B+19) v.1) ?_ fun v12 h12 => ?_
 ·refine Tot.cnd (fun _ => ?_) (fun _=>Tot.sm (h10.2.2.mono (by omega)));exact Tot.bd (pickP 3 h10.2.2 (by omega) (by omega)) fun v h=>Tot.sm (h.2.2.mono (by omega))
 refine Tot.bd (pickP a h12 (by omega) ha) fun v13 h13 => ?_
 refine Tot.cnd (fun _=>Tot.sm (h13.2.2.mono (by omega))) (fun _ => ?_);refine Tot.bd (pickP 5 h13.2.2 (by omega) (by omega)) fun v14 h14 => ?_
 refine Tot.bd (P:=fun v=>Ok (B+40) v.1) ?_ fun v h=>Tot.sm h
 refine Tot.cnd (fun _ => ?_) (fun _=>Tot.cnd (fun _ => ?_) (fun _=>Tot.cnd (fun _ => ?_) (fun _=>Tot.cnd (fun _ => ?_) (fun _ => ?_))))
 ·refine Tot.bd (pickP 2 h14.2.2 (by omega) (by omega)) fun v h => ?_
  exact Tot.bd (Tot.ixT h.1 (by simpa using h.2.1)) fun w _=>Tot.sm (h.2.2.mono (by omega))
 ·exact Tot.bd (l20Win_t 1 (by omega) h14.2.2 (by omega)) fun v h=>Tot.sm (h.mono (by omega))
 ·refine Tot.bd (pickP 5 h14.2.2 (by omega) (by omega)) fun v h => ?_
  exact Tot.bd (Tot.ixT h.1 (by simpa using h.2.1)) fun w _=>Tot.sm (h.2.2.mono (by omega))
 ·exact Tot.bd (pickP 5 h14.2.2 (by omega) (by omega)) fun v h=>Tot.sm (h.2.2.mono (by omega))
 ·exact Tot.bd (l20Agg_t 1 (by omega) h14.2.2 (by omega)) fun v h=>Tot.sm (h.mono (by omega))
def leftG (n:Int) (p:List ItmItem×WinWin):Int:=n+(p.1.length-p.2.1)
def fLeft (f:FloFlow):Int:=((fL f).zip (fS f)).foldl leftG 0
theorem left_step (f:FloFlow) (h:FloP f) (i:Nat) (hi:i<(fL f).length) (hi2:i<(fS f).length):0≤(fS f)[i].1∧(fS f)[i].1≤(fL f)[i].length∧(fL f)[i].length≤40:=by
 have h1:=(h.src i hi hi2).1;have h2:=logOk_len (h.log _ (List.getElem_mem hi));omega
theorem zip_len (f:FloFlow) (h:FloP f):((fL f).zip (fS f)).length=(fL f).length∧(fS f).length=(fL f).length∧(fL f).length≤3:=by
 obtain ⟨a,b,_⟩:=h.lens;rw [List.length_zip];omega
theorem i_FloLeft_ok (f:FloFlow) (h:FloP f) (h0:i_FloOk f=some true):i_FloLeft f=some (fLeft f):=by
 obtain ⟨n1,n2,n3⟩:=zip_len f h;simp only [i_FloLeft,h0,bd_s,Bool.not_true,cnd_f];have hn:(f.2.1.length:Int)=(((fL f).zip (fS f)).length:Int):=by rw [n1]
 rw [fold_i ((fL f).zip (fS f)) leftG (fun i n=>0≤n∧n≤40*(i:Int)) (fun n i=>(f,n,i)) (fun n=>n) 0 (by simp) (fun s=>by
  have this:¬ ((((fL f).zip (fS f)).length:Int)<f.2.1.length):=by rw [hn];omega
  show cnd (decide ((((fL f).zip (fS f)).length:Int)<f.2.1.length)) _ _=_;rw [decide_eq_false this];rfl) (fun s i hi hI=>by
  have i1:i<f.2.1.length:=by rw [n1] at hi;exact hi
  have i2:i<f.2.2.1.length:=by have:f.2.2.1.length=f.2.1.length:=n2;omega
  have hs:=left_step f h i i1 i2;have e:((fL f).zip (fS f))[i]=(f.2.1[i],f.2.2.1[i]):=List.getElem_zip;have hs':0≤f.2.2.1[i].1∧f.2.2.1[i].1≤(f.2.1[i].length:Int)∧f.2.1[i].length≤40:=hs;have w1:w6 ((f.2.1[i].length:Int)-f.2.2.1[i].1)=(f.2.1[i].length:Int)-f.2.2.1[i].1:=w6_id (by omega) (by omega);have w2:w6 (s+((f.2.1[i].length:Int)-f.2.2.1[i].1))=s+((f.2.1[i].length:Int)-f.2.2.1[i].1):=w6_id (by omega) (by omega);rw [e];refine ⟨by simp only [leftG];omega,?_⟩;simp only [lt_d i1,ix_t i1,ix_t i2,w1,w2,w6_s i1 (show f.2.1.length<1000000000 by have:f.2.1.length≤3:=n3;omega),bd_s,cnd_t,leftG])]
 rfl
theorem s_FloLeft_ok (f:FloFlow) (h:FloP f) (h0:s_FloOk f=some true):s_FloLeft f=some (fLeft f):=by
 obtain ⟨n1,n2,n3⟩:=zip_len f h;simp only [s_FloLeft,h0,bd_s,Bool.not_true,cnd_f];have hn:(f.2.2.1.length:Int)=(((fL f).zip (fS f)).length:Int):=by rw [n1,←n2]
 rw [fold_i ((fL f).zip (fS f)) leftG (fun i n=>0≤n∧n≤40*(i:Int)) (fun n i=>(f,n,i)) (fun n=>n) 0 (by simp) (fun s=>by
  have this:¬ ((((fL f).zip (fS f)).length:Int)<f.2.2.1.length):=by rw [hn];omega
  show cnd (decide ((((fL f).zip (fS f)).length:Int)<f.2.2.1.length)) _ _=_;rw [decide_eq_false this];rfl) (fun s i hi hI=>by
  have i1:i<f.2.1.length:=by rw [n1] at hi;exact hi
  have i2:i<f.2.2.1.length:=by have:f.2.2.1.length=f.2.1.length:=n2;omega
  have hs:=left_step f h i i1 i2;have e:((fL f).zip (fS f))[i]=(f.2.1[i],f.2.2.1[i]):=List.getElem_zip;have hs':0≤f.2.2.1[i].1∧f.2.2.1[i].1≤(f.2.1[i].length:Int)∧f.2.1[i].length≤40:=hs;have w1:w6 (s+(f.2.1[i].length:Int))=s+(f.2.1[i].length:Int):=w6_id (by omega) (by omega);have w2:w6 (s+(f.2.1[i].length:Int)-f.2.2.1[i].1)=s+((f.2.1[i].length:Int)-f.2.2.1[i].1):=by rw [w6_id (by omega) (by omega)];omega
  rw [e];refine ⟨by simp only [leftG];omega,?_⟩;simp only [lt_d i2,ix_t i1,ix_t i2,w1,w2,w6_s i2 (show f.2.2.1.length<1000000000 by have:f.2.2.1.length=f.2.1.length:=n2;have:f.2.1.length≤3:=n3;omega),bd_s,cnd_t,leftG])]
 rfl
theorem s_l10CopySink_oe (s:FloSink) (h:s.1.length≤1000000∧s.2.2.1.length≤1000000∧s.2.2.2.length≤1000000∧∀ x,x∈s.1→x.2.1.length≤1000000∧x.2.2.length≤1000000):s_l10CopySink_o s=some s:=by
 obtain ⟨h1,h2,h3,h4⟩:=h;simp only [s_l10CopySink_o,Nat.zero_add,List.nil_append];rw [gd_t (by omega),gd_t (by omega)];rw [fold_i (A:=FloSink×(FloSink×(FloSink×Int))) (B:=FloSink×FloSink) s.1 (fun (o:List TskTxn) c=>o++[c]) (fun i o=>o.length≤i) (fun o i=>(s,([],0,[],[]),(o,s.2),i)) (fun o=>(([],0,[],[]),(o,s.2))) [] (by simp) (fun o=>by simp) (fun o i hi hI=>by
  refine ⟨len_1 hI,?_⟩;have:=h4 _ (List.getElem_mem hi);have g1:(o.length+1)*56≤140737488355328:=by omega
  simp only [lt_d hi,ix_t hi,w6_s hi (show s.1.length<1000000000 by omega),bd_s,cnd_t,s_l8CopyTxn_e s.1[i] (by omega) (by omega),List.length_singleton,gd_t g1])]
 rw [fold_app];rfl
theorem s_l10Copy_oe (f:FloFlow) (h:FloP f):s_l10Copy_o f=some f:=by
 have hc:=s_l9Copy_e _ h.ckp.sm;have hk:=h.snk_sm;have hl:=h.log_sm;have ht:∀ t,t∈fT f→smT t:=fun t ht=>smT_of (h.tsk t ht).1
 obtain ⟨n1,n2,n3,n4,_,_⟩:=h.lens;obtain ⟨j,lg,sr,tk,sk,ck⟩:=f;simp only [fC,fL,fS,fT,fK] at hc hk hl ht n1 n2 n3 n4;simp only [s_l10Copy_o,Nat.zero_add,List.nil_append,hc,bd_s];rw [gd_t (by omega)];rw [fold_i (A:=FloFlow×(FloFlow×(FloFlow×Int))) (B:=FloFlow×(FloFlow×FloFlow)) lg (fun (o:List (List ItmItem)) c=>o++[c]) (fun i o=>o.length≤i) (fun o i=>((j,lg,sr,tk,sk,ck),floZ,(j,o,sr,[],[],ck),i)) (fun o=>((j,lg,sr,tk,sk,ck),floZ,(j,o,sr,[],[],ck))) [] (by simp) (fun o=>by simp) (fun o i hi hI=>by
  refine ⟨len_1 hI,?_⟩;have:=hl _ (List.getElem_mem hi);have g1:lg[i].length*40≤140737488355328:=by omega
  have g2:(o.length+1)*24≤140737488355328:=by omega
  simp only [lt_d hi,ix_t hi,w6_s hi (show lg.length<1000000000 by omega),bd_s,cnd_t,gd_t g1,gd_t g2])]
 rw [fold_app];simp only [bd_s,List.nil_append];have e:=for_t (A:=FloFlow×(FloFlow×(FloFlow×Int))) (B:=FloFlow×FloFlow) (f:=fun v5=>(cnd (decide (v5.2.2.2<(v5.1.2.2.2.1.length:Int))) (bd (ix v5.1.2.2.2.1 v5.2.2.2) fun (v6:TskTask)=>(bd (s_l8Copy v6) fun (v7:TskTask)=>(gd ((v5.2.2.1.2.2.2.1.length+1)*120≤140737488355328) (bd (ix v5.1.2.2.2.2.1 v5.2.2.2) fun (v8:FloSink)=>(bd (s_l10CopySink_o v8) fun (v9:FloSink)=>(gd ((v5.2.2.1.2.2.2.2.1.length+1)*80≤140737488355328) (some (.inl (v5.1,v5.2.1,(v5.2.2.1.1,v5.2.2.1.2.1,v5.2.2.1.2.2.1,(v5.2.2.1.2.2.2.1++[v7]),(v5.2.2.1.2.2.2.2.1++[v9]),v5.2.2.1.2.2.2.2.2),(w6 (v5.2.2.2+(1:Int)))))))))))) (some (.inr (v5.2.1,v5.2.2.1)))))
  (fun i=>((j,lg,sr,tk,sk,ck),floZ,(j,lg,sr,tk.take i.toNat,sk.take i.toNat,ck),i)) tk.length (b:=(floZ,(j,lg,sr,tk,sk,ck))) (by omega) (by
   have e1:tk.take ((tk.length:Int)).toNat=tk:=by rw [Int.toNat_natCast,List.take_length]
   have e2:sk.take ((tk.length:Int)).toNat=sk:=by rw [Int.toNat_natCast,←n4,List.take_length]
   have d:decide ((tk.length:Int)<(tk.length:Int))=false:=by simp
   simp only [d,cnd_f,e1,e2]) (fun i hi=>by
   have hi2:i<sk.length:=by omega
   have e1:(((i:Nat):Int)+1).toNat=i+1:=by omega
   have t1:tk.take (i+1)=tk.take i++[tk[i]]:=by rw [List.take_add_one,List.getElem?_eq_getElem hi];rfl
   have t2:sk.take (i+1)=sk.take i++[sk[i]]:=by rw [List.take_add_one,List.getElem?_eq_getElem hi2];rfl
   have g1:((tk.take i).length+1)*120≤140737488355328:=by simp;omega
   have g2:((sk.take i).length+1)*80≤140737488355328:=by simp;omega
   have hks:=hk _ (List.getElem_mem hi2);have hkc:=s_l10CopySink_oe sk[i] ⟨by omega,by omega,by omega,fun x hx=>by have:=hks.2.2.2 x hx;omega⟩;simp only [lt_d hi,ix_t hi,ix_t hi2,w6_s hi (show tk.length<1000000000 by omega),bd_s,cnd_t,s_l8Copy_e _ (ht _ (List.getElem_mem hi)),hkc,Int.toNat_natCast,gd_t g1,gd_t g2,e1,t1,t2])
 simp only [Int.toNat_zero,List.take_zero] at e;rw [e];rfl
theorem smF_of2 {f:FloFlow} (h:FloP f):smF f :=
 ⟨h.ckp.sm,fun t ht=>by have:=(pTsk_sm (h.tsk t ht).1).1;omega,fun s hs=>by have:=(h.snk_sm s hs).1;omega⟩
theorem mem_upd {α:Type} {l:List α} {n:Nat} {x y:α} (h:n<l.length) (hy:y∈l.take n++x::l.drop (n+1)):y∈l∨y=x:=by
 rw [upd_set _ h] at hy;exact List.mem_or_eq_of_mem_set hy
theorem ix_z {α:Type} {l:List α} (h:1≤l.length):ix l 0=some (l[0]'(by omega)):=by
 have:=ix_t (l:=l) (n:=0) (by omega);simpa using this
theorem l21Spoil_t {r:l20Rd} {f:FloFlow} {B:Int} (h:FloP f) (ho:Ok B r) (hB:B≤30000):Tot (fun v=>smF v.1∧Ok (B+1200) v.2) (s_l21Spoil (r,f)):=by
 have hb:=smF_of2 h;obtain ⟨n1,n2,n3,n4,n5,n6⟩:=h.lens;have hs:=job_S h.ckp.job;have hat:=h.ckp.atl;have hsk:=h.snk_sm;simp only [s_l21Spoil,s_l10Copy_oe f h,bd_s];obtain ⟨j,lg,sr,tk,sk,ck⟩:=f;simp only [fC,fL,fS,fT,fK,fJ] at hb n1 n2 n3 n4 n5 n6 hs hat hsk;refine Tot.bd (pickP 9 ho (by omega) (by omega)) fun v2 h2 => ?_
 refine Tot.bd (P:=fun v=>smF v.2.1∧Ok (B+1200) v.1) ?_ fun v h=>Tot.sm h
 have x1:ix lg 0=some (lg[0]'(by omega)):=ix_z n5;have x2:ix sr 0=some (sr[0]'(by omega)):=ix_z (by omega);have x3:ix tk 0=some (tk[0]'(by omega)):=ix_z n6;have x4:ix sk 0=some (sk[0]'(by omega)):=ix_z (by omega);have x5:ix ck.2.2.2.2.2.2.1 0=some (ck.2.2.2.2.2.2.1[0]'(by omega)):=ix_z (by omega);have hk0:=hsk _ (List.getElem_mem (show 0<sk.length by omega));have ht0:=hb.rows _ (List.getElem_mem (show 0<tk.length by omega));have hbr:∀ s,s∈sk→s.1.length<1000000000:=hb.ready;have hbt:∀ t,t∈tk→t.2.1.2.length<1000000000:=hb.rows;have snk:∀ s:FloSink,s.1.length<1000000000→smF (j,lg,sr,tk,sk.take 0++s::sk.drop (0+1),ck):=fun s hs0=>⟨hb.ckp,hb.rows,fun x hx=>by
  rcases mem_upd (by omega) hx with hx|rfl
  ·exact hbr x hx
  ·exact hs0⟩
 have tsk:∀ t:TskTask,t.2.1.2.length<1000000000→smF (j,lg,sr,tk.take 0++t::tk.drop (0+1),sk,ck):=fun t ht0=>⟨hb.ckp,fun x hx=>by
  rcases mem_upd (by omega) hx with hx|rfl
  ·exact hbt x hx
  ·exact ht0,hb.ready⟩
 have z0:(0:Int).toNat=0:=rfl;simp only [x1,x2,x3,x4,x5,bd_s,gd_rf,gd_T,z0];refine Tot.cnd (fun _ => ?_) (fun _=>Tot.cnd (fun _ => ?_) (fun _=>Tot.cnd (fun _ => ?_) (fun _=>Tot.cnd (fun _ => ?_) (fun _=>Tot.cnd (fun _ => ?_) (fun _=>Tot.cnd (fun _ => ?_) (fun _=>Tot.cnd (fun _ => ?_) (fun _=>Tot.cnd (fun _ => ?_) (fun _ => ?_))))))))
 ·exact Tot.bd (l20AnyJob_t 1 (by omega) h2.2.2 (by omega)) fun v3 h3=>Tot.sm ⟨⟨hb.ckp,hb.rows,hb.ready⟩,h3.mono (by omega)⟩
 ·exact Tot.bd (l20AnyLog_t 1 (by omega) h2.2.2 (by omega)) fun v3 h3=>Tot.sm ⟨⟨hb.ckp,hb.rows,hb.ready⟩,h3.2.mono (by omega)⟩
 ·refine Tot.bd (pickP 3 h2.2.2 (by omega) (by omega)) fun v8 h8 => ?_
  refine Tot.bd (Tot.ixT h8.1 (by simpa using h8.2.1)) fun v9 _ => ?_
  rw [ix_z (by rw [upd_len _ _ _ (by omega)];omega)];exact Tot.sm ⟨⟨hb.ckp,hb.rows,hb.ready⟩,h8.2.2.mono (by omega)⟩
 ·refine Tot.bd (pickP 3 h2.2.2 (by omega) (by omega)) fun v8 h8 => ?_
  refine Tot.bd (Tot.ixT h8.1 (by simpa using h8.2.1)) fun v9 _ => ?_
  exact Tot.sm ⟨⟨hb.ckp,hb.rows,hb.ready⟩,h8.2.2.mono (by omega)⟩
 ·refine Tot.bd (pickP 2 h2.2.2 (by omega) (by omega)) fun v8 h8 => ?_
  exact Tot.sm ⟨tsk _ ht0,h8.2.2.mono (by omega)⟩
 ·refine Tot.bd (pickP 4 h2.2.2 (by omega) (by omega)) fun v8 h8 => ?_
  refine Tot.gd (by omega) (Tot.sm ⟨snk _ ?_,h8.2.2.mono (by omega)⟩);simp only [List.length_append,List.length_singleton];omega
 ·refine Tot.bd (pickP 3 h2.2.2 (by omega) (by omega)) fun v8 h8 => ?_
  refine Tot.bd (Tot.ixT h8.1 (by simpa using h8.2.1)) fun v9 _ => ?_
  exact Tot.sm ⟨snk _ (by show sk[0].1.length<_;omega),h8.2.2.mono (by omega)⟩
 ·refine Tot.bd (l20Pane_t 2 (by omega) h2.2.2 (by omega)) fun v8 h8 => ?_
  exact Tot.gd (by simp only [List.length_singleton];omega) (Tot.sm ⟨snk _ (by show sk[0].1.length<_;omega),h8.mono (by omega)⟩)
 ·refine Tot.bd (pickP 3 h2.2.2 (by omega) (by omega)) fun v8 h8 => ?_
  refine Tot.bd (Tot.ixT h8.1 (by simpa using h8.2.1)) fun v9 _ => ?_
  rw [ix_z (by rw [upd_len _ _ _ (by omega)];omega)];refine Tot.sm ⟨⟨?_,hb.rows,hb.ready⟩,h8.2.2.mono (by omega)⟩;obtain ⟨a1,a2,a3,a4,a5,a6,a7⟩:=hb.ckp;refine ⟨a1,a2,a3,a4,?_,a6,a7⟩;have a5:ck.2.2.2.2.2.2.1.length≤2000000:=a5;have e1:∀ x:Int,(ck.2.2.2.2.2.2.1.take 0++x::ck.2.2.2.2.2.2.1.drop (0+1)).length=ck.2.2.2.2.2.2.1.length:=fun x=>upd_len _ _ _ (by omega)
  show List.length _≤_;rw [upd_len _ _ _ (by rw [e1];omega),e1];exact a5
theorem l21Any_t {r:l20Rd} {B:Int} (a:Int) (ha:1≤a) (h:Ok B r) (hB:B≤20000):Tot (fun v=>smF v.1∧Ok (B+8000) v.2) (s_l21Any (r,a)):=by
 simp only [s_l21Any];refine Tot.bd (l21Flow_t h hB) fun v1 h1 => ?_
 obtain ⟨hF,_,ho⟩:=h1;refine Tot.bd (pickP a ho (by omega) ha) fun v2 h2 => ?_
 refine Tot.cnd (fun _ => ?_) (fun _=>Tot.sm ⟨smF_of2 hF.ok,h2.2.2.mono (by omega)⟩);exact Tot.bd (l21Spoil_t hF.ok h2.2.2 (by omega)) fun v3 h3=>Tot.sm ⟨h3.1,h3.2.mono (by omega)⟩
def isR (m:Int) (x:ItmItem):Bool:=x.1==1&&decide (x.2.2.2.1≥m)
def recG (m:Int) (o:List ItmItem) (x:ItmItem):List ItmItem:=if isR m x then o++[x] else o
theorem recG_fold (m:Int):∀ (l o:List ItmItem),l.foldl (recG m) o=o++l.filter (isR m):=by
 intro l;induction l with
 | nil=>intro o;simp
 | cons x l ih =>
  intro o;rw [List.foldl_cons,ih,List.filter_cons,recG];cases isR m x<;>simp
theorem recG_len (m:Int) (o:List ItmItem) (x:ItmItem) {i:Nat} (h:o.length≤i):(recG m o x).length≤i+1:=by
 unfold recG;split
 ·rw [List.length_append,List.length_singleton];omega
 ·omega
theorem i_LogRecs_e (l:List ItmItem) (m:Int) (h:l.length≤100000):i_LogRecs (l,m)=some (l.filter (isR m)):=by
 simp only [i_LogRecs];rw [fold_i (A:=List ItmItem×Int) (B:=List ItmItem) l (recG m) (fun i o=>o.length≤i) (fun o i=>(o,i)) (fun o=>o) [] (by simp) (fun o=>by simp) (fun o i hi hI=>by
  refine ⟨recG_len m o _ hI,?_⟩;have g1:(o.length+[l[i]].length)*40≤140737488355328:=by simp only [List.length_singleton];omega
  simp only [lt_d hi,ix_t hi,w6_s hi (show l.length<1000000000 by omega),bd_s,cnd_t,recG,isR];rcases Bool.eq_false_or_eq_true (l[i].1==(1:Int)) with b1|b1
  ·rcases Bool.eq_false_or_eq_true (decide (l[i].2.2.2.1≥m)) with b2|b2
   ·simp only [b1,b2,cnd_t,bd_s,gd_t g1,Bool.and_self,if_true]
   ·simp only [b1,b2,cnd_t,cnd_f,bd_s,Bool.and_false,bfe,if_false]
  ·simp only [b1,cnd_f,bd_s,Bool.false_and,bfe,if_false])]
 rw [recG_fold];simp
theorem s_LogRecs_e (l:List ItmItem) (m:Int) (h:l.length≤100000):s_LogRecs (l,m)=some (l.filter (isR m)):=by
 simp only [s_LogRecs];rw [fold_i (A:=List ItmItem×Int) (B:=List ItmItem) l (recG m) (fun i o=>o.length≤i) (fun o i=>(o,i)) (fun o=>o) [] (by simp) (fun o=>by simp) (fun o i hi hI=>by
  refine ⟨recG_len m o _ hI,?_⟩;have g1:(o.length+[l[i]].length)*40≤140737488355328:=by simp only [List.length_singleton];omega
  simp only [lt_d hi,ix_t hi,w6_s hi (show l.length<1000000000 by omega),bd_s,cnd_t,recG,isR];rcases Bool.eq_false_or_eq_true (l[i].1==(1:Int)) with b1|b1
  ·rcases Bool.eq_false_or_eq_true (decide (l[i].2.2.2.1≥m)) with b2|b2
   ·simp only [b1,b2,cnd_t,bd_s,gd_t g1,Bool.and_self,if_true]
   ·simp only [b1,b2,cnd_t,cnd_f,bd_s,Bool.and_false,bfe,if_false]
  ·simp only [b1,cnd_f,bd_s,Bool.false_and,bfe,if_false])]
 rw [recG_fold];simp
abbrev fLst (f:FloFlow):Int:=f.1.2.2.2.2.2.2.2.2.1
def frG (m:Int) (o:List ItmItem) (l:List ItmItem):List ItmItem:=o++l.filter (isR m)
def fRecs (f:FloFlow):List ItmItem:=(fL f).foldl (frG (fLst f)) []
theorem fil_le (m:Int) (l:List ItmItem):(l.filter (isR m)).length≤l.length:=List.length_filter_le _ _
theorem i_FloRecs_ok (f:FloFlow) (h:FloP f) (h0:i_FloOk f=some true):i_FloRecs f=some (fRecs f):=by
 obtain ⟨n1,_⟩:=h.lens;have hl:=h.log_sm;have n1:f.2.1.length≤3:=n1;simp only [i_FloRecs,h0,bd_s,Bool.not_true,cnd_f];rw [fold_i (A:=FloFlow×(List ItmItem×Int)) (B:=List ItmItem) f.2.1 (frG (fLst f)) (fun i o=>o.length≤40*i) (fun o i=>(f,o,i)) (fun o=>o) [] (by simp) (fun o=>by simp) (fun o i hi hI=>by
  have h40:f.2.1[i].length≤40:=hl _ (List.getElem_mem hi);have hf:=fil_le (fLst f) f.2.1[i];refine ⟨by simp only [frG,List.length_append];omega,?_⟩;have hr:i_LogRecs (f.2.1[i],f.1.2.2.2.2.2.2.2.2.1)=some (f.2.1[i].filter (isR (fLst f))):=i_LogRecs_e _ _ (by omega);have g1:(o.length+(f.2.1[i].filter (isR (fLst f))).length)*40≤140737488355328:=by omega
  simp only [lt_d hi,ix_t hi,w6_s hi (show f.2.1.length<1000000000 by omega),bd_s,cnd_t,hr,gd_t g1,frG])]
 rfl
theorem s_FloRecs_ok (f:FloFlow) (h:FloP f) (h0:s_FloOk f=some true):s_FloRecs f=some (fRecs f):=by
 obtain ⟨n1,_⟩:=h.lens;have hl:=h.log_sm;have n1:f.2.1.length≤3:=n1;simp only [s_FloRecs,h0,bd_s,Bool.not_true,cnd_f];rw [fold_i (A:=FloFlow×(List ItmItem×Int)) (B:=List ItmItem) f.2.1 (frG (fLst f)) (fun i o=>o.length≤40*i) (fun o i=>(f,o,i)) (fun o=>o) [] (by simp) (fun o=>by simp) (fun o i hi hI=>by
  have h40:f.2.1[i].length≤40:=hl _ (List.getElem_mem hi);have hf:=fil_le (fLst f) f.2.1[i];refine ⟨by simp only [frG,List.length_append];omega,?_⟩;have hr:s_LogRecs (f.2.1[i],f.1.2.2.2.2.2.2.2.2.1)=some (f.2.1[i].filter (isR (fLst f))):=s_LogRecs_e _ _ (by omega);have g1:(o.length+(f.2.1[i].filter (isR (fLst f))).length)*40≤140737488355328:=by omega
  simp only [lt_d hi,ix_t hi,w6_s hi (show f.2.1.length<1000000000 by omega),bd_s,cnd_t,hr,gd_t g1,frG])]
 rfl
def cntG (m:Int) (s:Int×Int) (l:List ItmItem):Int×Int:=(s.1+((l.filter (isR m)).length:Int),s.2+(l.length:Int))
theorem cnt_fst (m:Int):∀ (l:List (List ItmItem)) (s:Int×Int) (o:List ItmItem),s.1=(o.length:Int)→(l.foldl (cntG m) s).1=((l.foldl (frG m) o).length:Int):=by
 intro l;induction l with
 | nil=>intro s o h;exact h
 | cons x l ih =>
  intro s o h;rw [List.foldl_cons,List.foldl_cons];refine ih _ _ ?_;simp only [cntG,frG,List.length_append];omega
theorem cnt_snd (m:Int):∀ (l:List (List ItmItem)) (w:List WinWin) (s:Int×Int) (n:Int),(∀ p,p∈l.zip w→0≤p.2.1∧p.2.1≤(p.1.length:Int))→l.length=w.length→0≤n→n≤s.2→0≤(l.zip w).foldl leftG n∧(l.zip w).foldl leftG n≤(l.foldl (cntG m) s).2:=by
 intro l;induction l with
 | nil=>intro w s n _ _ h0 h1;simpa using ⟨h0,h1⟩
 | cons x l ih =>
  intro w s n h hl h0 h1;cases w with
  | nil=>simp at hl
  | cons y w =>
   rw [List.zip_cons_cons,List.foldl_cons,List.foldl_cons];have hp:=h (x,y) (by simp);simp only at hp;refine ih w _ _ (fun p hm=>h p (by simp [hm])) (by simpa using hl) ?_ ?_
   ·simp only [leftG];omega
   ·simp only [leftG,cntG];omega
theorem DrawFloRecs_t (l:List Int) (hb:∀ x,x∈l→0≤x∧x≤255):Tot smF (s_DrawFloRecs l):=by
 simp only [s_DrawFloRecs];refine Tot.bd (l20Open_t l hb) fun v1 h1 => ?_
 exact Tot.bd (l21Any_t 12 (by omega) h1 (by omega)) fun v2 h2=>Tot.sm h2.1
theorem FnFloRecs_law (l:List Int) (hb:∀ x,x∈l→0≤x∧x≤255):l_FnFloRecs l=some true:=by
 obtain ⟨f,hd,hs⟩:=DrawFloRecs_t l hb;have hi:=i_FloOk_e f hs;have hso:=s_FloOk_e f (smC_sn hs.ckp);simp only [l_FnFloRecs];rcases Bool.eq_false_or_eq_true (decide ((l.length:Int)>1048576)) with b|b
 ·simp only [b,cnd_t]
 simp only [b,cnd_f,hd,bd_s];cases hp:pFlo f
 ·rw [hp] at hi hso;have e1:i_FloRecs f=some []:=by simp only [i_FloRecs,hi,bd_s,Bool.not_false,cnd_t]
  have e2:s_FloRecs f=some []:=by simp only [s_FloRecs,hso,bd_s,Bool.not_false,cnd_t]
  have e3:i_FloLeft f=some 0:=by simp only [i_FloLeft,hi,bd_s,Bool.not_false,cnd_t]
  have e4:s_FloLeft f=some 0:=by simp only [s_FloLeft,hso,bd_s,Bool.not_false,cnd_t]
  have e5:l_frItems ([],[])=some true:=frItems_s [] (by simp);have e6:((0:Nat):Int)==(0:Int):=by simp
  simp only [e1,e2,e3,e4,e5,bd_s,Bool.not_true,cnd_f,bne_self_eq_false,hso,Bool.not_false,cnd_t,List.length_nil,e6,beq_self_eq_true,frOk_z]
 ·rw [hp] at hi hso;have hP:=(pFlo_iff f).1 hp;have e1:=i_FloRecs_ok f hP hi;have e2:=s_FloRecs_ok f hP hso;have e3:=i_FloLeft_ok f hP hi;have e4:=s_FloLeft_ok f hP hso;obtain ⟨n1,n2,_⟩:=hP.lens;have hl:=hP.log_sm;have n1:f.2.1.length≤3:=n1;have hn:=cnt_fst (fLst f) (fL f) (0,0) [] rfl;have hm:=cnt_snd (fLst f) (fL f) (fS f) (0,0) 0 (fun p hp=>by
   obtain ⟨i,hi,rfl⟩:=List.mem_iff_getElem.1 hp;have h1:i<(fL f).length:=by rw [List.length_zip] at hi;omega
   have h2:i<(fS f).length:=by omega
   have:=left_step f hP i h1 h2;rw [List.getElem_zip];exact ⟨this.1,this.2.1⟩) n2.symm (by simp) (by simp)
  have hlen:(fRecs f).length<1000000000:=by
   have key:∀ (l:List (List ItmItem)) (o:List ItmItem),(∀ x,x∈l→x.length≤40)→(l.foldl (frG (fLst f)) o).length≤o.length+40*l.length:=by
    intro l;induction l with
    | nil=>intro o _;simp
    | cons x l ih =>
     intro o h;rw [List.foldl_cons];have h1:=ih (frG (fLst f) o x) (fun y hy=>h y (by simp [hy]));have h2:=h x (by simp);have h3:=fil_le (fLst f) x;have h4:(frG (fLst f) o x).length=o.length+(x.filter (isR (fLst f))).length:=by simp [frG]
     rw [List.length_cons];omega
   have:=key (fL f) [] hl;have h3:(fL f).length≤3:=n1;simp only [List.length_nil] at this;show ((fL f).foldl (frG (fLst f)) []).length<_;omega
  have e5:l_frItems (fRecs f,fRecs f)=some true:=frItems_s _ hlen;simp only [e1,e2,e3,e4,e5,bd_s,Bool.not_true,cnd_f,bne_self_eq_false,hso];rw [fold_i (A:=FloFlow×(List ItmItem×(Int×(Int×Int)))) (B:=FloFlow×(List ItmItem×(Int×Int))) f.2.1 (cntG (fLst f)) (fun i s=>(0≤s.1∧s.1≤40*(i:Int))∧0≤s.2∧s.2≤40*(i:Int)) (fun s i=>(f,fRecs f,s.1,s.2,i)) (fun s=>(f,fRecs f,s.1,s.2)) (0,0) (by simp) (fun s=>by simp) (fun s i hi hI=>by
   have h40:f.2.1[i].length≤40:=hl _ (List.getElem_mem hi);have hf:=fil_le (fLst f) f.2.1[i];have hr:i_LogRecs (f.2.1[i],f.1.2.2.2.2.2.2.2.2.1)=some (f.2.1[i].filter (isR (fLst f))):=i_LogRecs_e _ _ (by omega);have w1:w6 (s.1+((f.2.1[i].filter (isR (fLst f))).length:Int))=s.1+((f.2.1[i].filter (isR (fLst f))).length:Int):=w6_id (by omega) (by omega);have w2:w6 (s.2+(f.2.1[i].length:Int))=s.2+(f.2.1[i].length:Int):=w6_id (by omega) (by omega);refine ⟨by simp only [cntG];omega,?_⟩;simp only [lt_d hi,ix_t hi,w6_s hi (show f.2.1.length<1000000000 by omega),bd_s,cnd_t,hr,w1,w2,cntG])]
  have hn':((f.2.1.foldl (cntG (fLst f)) (0,0)).1==((fRecs f).length:Int))=true:=by
   rw [beq_iff_eq];exact hn
  have g0:decide (fLeft f≥0)=true:=by simp only [dte];exact hm.1
  have g1:decide (fLeft f≤(f.2.1.foldl (cntG (fLst f)) (0,0)).2)=true:=by simp only [dte];exact hm.2
  simp only [bd_s,hn',cnd_t,e3,g0,g1]
end Go.Proofs.YteecakkojdhmaaaGreatA.AS
