/- A part of the proof that FnTskPut holds: the law about the plain functions. -/
import Derived.Test.YteecakkojdhmaaaGreatPl1
set_option linter.unusedVariables false
set_option linter.unusedSimpArgs false
namespace Go.Proofs.YteecakkojdhmaaaGreatA.AS
theorem Tot.of {α:Type} {P:α→Prop} {o:Option α} {x:α} (h:o=some x) (hp:P x):Tot P o:=⟨x,h,hp⟩
theorem lowI_rep (S:Nat) (h:0<S):lowI (List.replicate S 0)=0:=by
 have:=lowI_facts (List.replicate S 0) 1000;have hm:(0:Int)∈List.replicate S 0:=by rw [List.mem_replicate];exact ⟨by omega,rfl⟩
 have h1:=this.1.2 0 hm;rcases this.2 with h2|h2
 ·have:lowI (List.replicate S 0)=1000:=h2;have h3:lowI (List.replicate S 0)≤0:=h1;omega
 ·exact List.eq_of_mem_replicate h2
theorem op0_I {j:JobJob} (hj:jobOk j=true):OpI j op0 0:=⟨hj,by simp,by simp,List.Pairwise.nil,fun _=>List.Pairwise.nil,by simp⟩
theorem sn0_ok {j:JobJob} (hj:jobOk j=true):pSnap j (sn0 j.1.toNat)=true:=by
 have hS:=(job_S hj).1;have hop:=(op0_I hj).ok (by simp);simp only [pSnap,Bool.and_eq_true,beq_iff_eq,List.all_eq_true];refine ⟨⟨⟨hop,by simp only [List.length_replicate];omega⟩,?_⟩,(lowI_rep _ (by omega)).symm⟩;intro m hm;have:=List.eq_of_mem_replicate hm;subst this;rfl
theorem rep_map (S:Nat):(List.replicate S (([],0,false):TskIn))=(List.replicate S (0:Int)).map fun m=>(([],m,false):TskIn):=by
 rw [List.map_replicate]
theorem tsk0_I (w:ItmItem→Int) {j:JobJob} (hj:jobOk j=true):TskG w j (tsk0 j.1.toNat) 0 0:=by
 have h:=new_ok w (W:=0) hj (sn0_ok hj) (op0_I hj) (by omega);have hS:=(job_S hj).1;have e:pTskNew j op0 (List.replicate j.1.toNat 0)=tsk0 j.1.toNat:=by
  have h1:=(op0_I hj).ok (by simp);have h2:(((List.replicate j.1.toNat (0:Int)).length:Int)==j.1)=true:=by simp only [List.length_replicate,beq_iff_eq];omega
  have h3:(List.replicate j.1.toNat (0:Int)).all isTm=true:=by
   rw [List.all_eq_true];intro m hm;have:=List.eq_of_mem_replicate hm;subst this;rfl
  simp only [pTskNew,h1,h2,h3,Bool.not_true,Bool.or_self,Bool.false_eq_true,if_false,←rep_map]
 rw [e] at h;exact h
theorem ckp0_P {j:JobJob} (hj:jobOk j=true):CkpP j (ckp0 j.1.toNat j.2.1.toNat):=by
 have hS:=job_S hj;refine ⟨hj,⟨Int.le_refl _,by simp⟩,Int.le_refl _,(by intro h;cases h),?_,?_,?_,?_,?_,?_,?_,?_,?_⟩
 ·simp only [List.length_replicate];omega
 ·simp only [List.length_replicate];omega
 ·simp only [List.length_replicate];omega
 ·simp only [List.length_replicate];omega
 ·simp only [List.length_replicate];omega
 ·intro n hn;have:=List.eq_of_mem_replicate hn;subst this;exact ⟨by omega,by omega⟩
 ·intro s hs;have:=List.eq_of_mem_replicate hs;subst this;exact sn0_ok hj
 ·intro n hn;have:=List.eq_of_mem_replicate hn;subst this;exact ⟨⟨by omega,by omega⟩,.inr rfl⟩
 ·intro i a b;simp only at a b ⊢;rw [rep_get a,rep_get b];rfl
theorem flo0_FG (w:ItmItem→Int) {j:JobJob} {a:List (List ItmItem)} (hj:jobOk j=true) (ha:(a.length:Int)=j.1) (hl:∀ l,l∈a→logOk l=true):FG w 0 (flo0 j a j.1.toNat j.2.1.toNat):=by
 have hS:=job_S hj;refine ⟨⟨ckp0_P hj,ha,?_,?_,?_,hl,?_,?_,?_,?_⟩,?_,?_,?_,?_⟩
 ·show ((List.replicate j.1.toNat ((0:Int),(0:Int))).length:Int)=j.1;rw [List.length_replicate];omega
 ·show ((List.replicate j.2.1.toNat (tsk0 j.1.toNat)).length:Int)=j.2.1;rw [List.length_replicate];omega
 ·show ((List.replicate j.2.1.toNat snk0).length:Int)=j.2.1;rw [List.length_replicate];omega
 ·intro i x y;simp only at y ⊢;rw [rep_get y];exact ⟨⟨Int.le_refl _,by simp only;omega⟩,Int.le_refl _,Int.le_refl _⟩
 ·intro i x y;have y':i<(List.replicate j.1.toNat (0:Int)).length:=y;show (List.replicate j.1.toNat (0:Int))[i]≤_;rw [rep_get y'];omega
 ·intro t ht;have:=List.eq_of_mem_replicate ht;subst this;exact ⟨(pTsk_iff _ _).2 (tsk0_I w hj).ok,Int.le_refl _⟩
 ·intro s hs;have:=List.eq_of_mem_replicate hs;subst this;rfl
 ·intro t ht;have:=List.eq_of_mem_replicate ht;subst this;exact tsk0_I w hj
 ·intro i x y z;have x':i<(List.replicate j.2.1.toNat false).length:=x;have z':(List.replicate j.2.1.toNat false)[i]=true:=z;rw [rep_get x'] at z';cases z'
 ·intro s hs;have:=List.eq_of_mem_replicate hs;subst this;exact op0_I hj
 ·intro i x y;have y':i<(List.replicate j.1.toNat (-1:Int)).length:=y;show (List.replicate j.1.toNat (-1:Int))[i]≤_;rw [rep_get y'];omega
theorem flo0_FI {j:JobJob} {a:List (List ItmItem)} (hj:jobOk j=true) (ha:(a.length:Int)=j.1) (hl:∀ l,l∈a→logOk l=true):FI 0 (flo0 j a j.1.toNat j.2.1.toNat):=flo0_FG wt2 hj ha hl
structure FD (f:FloFlow):Prop where
 s:1≤f.2.2.1.length∧f.2.2.1.length≤3
 t:1≤f.2.2.2.1.length∧f.2.2.2.1.length≤2
 i:∀ t,t∈f.2.2.2.1→t.1.length=f.2.2.1.length
theorem FloP.fd {f:FloFlow} (h:FloP f):FD f:=by
 obtain ⟨n1,n2,n3,n4,n5,n6⟩:=h.lens;have n2:f.2.2.1.length=f.2.1.length:=n2;have n1:f.2.1.length≤3:=n1;have n5:1≤f.2.1.length:=n5;exact ⟨by omega,⟨n6,n3⟩,h.smF.il⟩
theorem l21Event_t {r:l20Rd} {B:Int} {f:FloFlow} (h:Ok B r) (hB:B≤80000) (hf:FD f):Tot (fun v=>Ok (B+3) v.2) (s_l21Event (r,f)):=by
 have hs:=hf.s;have ht:=hf.t;simp only [s_l21Event];refine Tot.bd (pickP 28 h (by omega) (by omega)) fun v1 h1 => ?_
 have w1:w6 ((f.2.2.2.1.length:Int)+1)=(f.2.2.2.1.length:Int)+1:=w6_id (by omega) (by omega);have w2:w6 ((f.2.2.1.length:Int)+1)=(f.2.2.1.length:Int)+1:=w6_id (by omega) (by omega);have ok3:=h1.2.2.mono (C:=B+3) (by omega);refine Tot.bd (P:=fun v=>v.1=v1.2∧v.2.1=f) (Tot.cnd (fun _=>Tot.sm ⟨rfl,rfl⟩) (fun _=>Tot.sm ⟨rfl,rfl⟩)) fun v2 h2 => ?_
 obtain ⟨a2,f2,c2⟩:=v2;obtain ⟨e1,e2⟩:=h2;simp only at e1 e2;subst e1 e2;refine Tot.bd (P:=fun v=>match v with|.inl x=>Ok (B+3) x.1|.inr x=>x.1=v1.2∧x.2.1=f2) ?_ fun v8 h8 => ?_
 ·refine Tot.cnd (fun _=>Tot.sm ok3) (fun _ => ?_);refine Tot.bd (P:=fun v=>v.1=v1.2∧v.2.1=f2) (Tot.cnd (fun _=>Tot.sm ⟨rfl,rfl⟩) (fun _=>Tot.sm ⟨rfl,rfl⟩)) fun v3 h3 => ?_
  obtain ⟨a3,f3,c3⟩:=v3;obtain ⟨e1,e2⟩:=h3;simp only at e1 e2;subst e1 e2;refine Tot.cnd (fun _=>Tot.sm ok3) (fun _=>Tot.cnd (fun _=>Tot.sm ok3) (fun _ => ?_));refine Tot.bd (P:=fun v=>v.1=v1.2∧v.2.1=f3) (Tot.cnd (fun _=>Tot.sm ⟨rfl,rfl⟩) (fun _=>Tot.sm ⟨rfl,rfl⟩)) fun v4 h4 => ?_
  obtain ⟨a4,f4,c4⟩:=v4;obtain ⟨e1,e2⟩:=h4;simp only at e1 e2;subst e1 e2;refine Tot.cnd (fun _ => ?_) (fun _=>Tot.cnd (fun _=>Tot.sm ok3) (fun _ => ?_))
  ·simp only [w1];exact Tot.bd (pickP _ h1.2.2 (by omega) (by omega)) fun v5 h5=>Tot.sm (h5.2.2.mono (by omega))
  ·refine Tot.bd (P:=fun v=>v.1=v1.2∧v.2.1=f4) ?_ fun v6 h6 => ?_
   ·exact Tot.cnd (fun _=>Tot.sm ⟨rfl,rfl⟩) (fun _=>Tot.cnd (fun _=>Tot.sm ⟨rfl,rfl⟩) (fun _=>Tot.cnd (fun _=>Tot.sm ⟨rfl,rfl⟩) (fun _=>Tot.cnd (fun _=>Tot.sm ⟨rfl,rfl⟩) (fun _=>Tot.cnd (fun _=>Tot.sm ⟨rfl,rfl⟩) (fun _=>Tot.cnd (fun _=>Tot.sm ⟨rfl,rfl⟩) (fun _=>Tot.cnd (fun _=>Tot.sm ⟨rfl,rfl⟩) (fun _=>Tot.sm ⟨rfl,rfl⟩)))))))
   ·obtain ⟨a6,f6,c6⟩:=v6;obtain ⟨e1,e2⟩:=h6;simp only at e1 e2;subst e1 e2;refine Tot.cnd (fun _ => ?_) (fun _=>Tot.sm ⟨rfl,rfl⟩);simp only [w2];exact Tot.bd (pickP _ h1.2.2 (by omega) (by omega)) fun v5 h5=>Tot.sm (h5.2.2.mono (by omega))
 ·cases v8 with
  | inl x=>exact Tot.sm h8
  | inr x =>
   obtain ⟨a6,f6,c6⟩:=x;obtain ⟨e1,e2⟩:=h8;simp only at e1 e2;subst e1 e2;simp only [cs_r,w2];refine Tot.bd (pickP _ h1.2.2 (by omega) (by omega)) fun v5 h5 => ?_
   exact Tot.bd (pickP _ h5.2.2 (by omega) (by omega)) fun v6 h6=>Tot.sm (h6.2.2.mono (by omega))
theorem l21Lively_t {r:l20Rd} {B:Int} {f:FloFlow} (h:Ok B r) (hB:B≤80000) (hf:FD f):Tot (fun v=>Ok (B+6) v.2) (s_l21Lively (r,f)):=by
 have hs:=hf.s;have ht:=hf.t;simp only [s_l21Lively];refine Tot.bd (pickP _ h (by omega) (by omega)) fun v1 h1 => ?_
 refine Tot.bd (pickP _ h1.2.2 (by omega) (by omega)) fun v2 h2 => ?_
 refine Tot.bd (P:=fun v=>match v with|.inl x=>Ok (B+6) x.1|.inr x=>Ok (B+6) x.1) ?_ fun v8 h8 => ?_
 ·refine Tot.iter (fun s:l20Rd×FloFlow×(Int×Int×Int)×Int×Int=>s.2.1=f∧(0≤s.2.2.2.1∧s.2.2.2.1<f.2.2.1.length)∧(0≤s.2.2.2.2∧s.2.2.2.2≤f.2.2.1.length)∧Ok (B+2+s.2.2.2.2) s.1) (fun s=>((f.2.2.1.length:Int)-s.2.2.2.2).toNat) (fun s hs' => ?_) ⟨rfl,⟨h2.1,h2.2.1⟩,⟨by simp,by simp⟩,h2.2.2.mono (by simp only;omega)⟩;obtain ⟨rd,f',z,kk,i⟩:=s;obtain ⟨e,⟨k0,k1⟩,⟨i0,i1⟩,ho⟩:=hs';simp only at e k0 k1 i0 i1 ho ⊢;subst e;refine Tot.cnd (fun hc => ?_) (fun hc=>Tot.sm (ho.mono (by omega)));have hc:i<f'.2.2.1.length:=by simpa using hc
  refine Tot.bd (Tot.ixT h1.1 h1.2.1) fun v4 h4 => ?_
  have hil:=hf.i v4 h4;refine Tot.bd (Tot.ixT k0 (by omega)) fun v5 h5 => ?_
  refine Tot.bd (P:=fun v=>Ok (B+2+i+1) v.1∧v.2.1=f') ?_ fun v7 h7 => ?_
  ·refine Tot.cnd (fun _=>Tot.cnd (fun _ => ?_) (fun _=>Tot.sm ⟨ho.mono (by omega),rfl⟩)) (fun _=>Tot.sm ⟨ho.mono (by omega),rfl⟩);exact Tot.bd (pickP 3 ho (by omega) (by omega)) fun v6 h6=>Tot.sm ⟨h6.2.2.mono (by omega),rfl⟩
  ·obtain ⟨a7,f7,c7⟩:=v7;obtain ⟨o7,e7⟩:=h7;simp only at o7 e7;subst e7;refine Tot.cnd (fun _=>Tot.sm (o7.mono (by omega))) (fun _ => ?_);have w1:w6 (kk+1)=kk+1:=w6_id (by omega) (by omega);have w2:w6 (i+1)=i+1:=w6_id (by omega) (by omega);have hm:=tm (a:=kk+1) (n:=(f7.2.2.1.length:Int)) (by omega) (by omega);refine Tot.gd (show ((f7.2.2.1.length:Int))≠0 by omega) (Tot.sm ?_);simp only [w1,w2];refine ⟨⟨rfl,hm,⟨by simp only;omega,by simp only;omega⟩,o7.mono (by simp only;omega)⟩,?_⟩;show ((f7.2.2.1.length:Int)-(i+1)).toNat<((f7.2.2.1.length:Int)-i).toNat;omega
 ·cases v8 with
  | inl x=>exact Tot.sm h8
  | inr x=>exact Tot.sm h8
theorem l21Story_t {r:l20Rd} {B:Int} {f:FloFlow} (a:Int) (h:Ok B r) (hB:B≤80000) (hf:FD f):Tot (fun v=>Ok (B+6) v.2) (s_l21Story (r,f,a)):=by
 have hs:=hf.s;have ht:=hf.t;have ok6:=h.mono (C:=B+6) (by omega);simp only [s_l21Story];refine Tot.bd (P:=fun v=>match v with|.inl x=>Ok (B+6) x.1|.inr x=>x.1=r∧x.2.1=f) ?_ fun v8 h8 => ?_
 ·refine Tot.cnd (fun _=>Tot.sm ok6) (fun _=>Tot.cnd (fun _ => ?_) (fun _=>Tot.cnd (fun _ => ?_) (fun _=>Tot.cnd (fun _=>Tot.sm ok6) (fun _ => ?_))))
  ·exact Tot.bd (pickP _ h (by omega) (by omega)) fun v h=>Tot.sm (h.2.2.mono (by omega))
  ·refine Tot.bd (pickP 3 h (by omega) (by omega)) fun v h => ?_
   exact Tot.bd (Tot.ixT h.1 (by simpa using h.2.1)) fun w _=>Tot.sm (h.2.2.mono (by omega))
  ·refine Tot.bd (P:=fun v=>v.1=r∧v.2.1=f) (Tot.cnd (fun _=>Tot.sm ⟨rfl,rfl⟩) (fun _=>Tot.sm ⟨rfl,rfl⟩)) fun v2 h2 => ?_
   obtain ⟨a2,f2,c2⟩:=v2;obtain ⟨e1,e2⟩:=h2;simp only at e1 e2;subst e1 e2;refine Tot.cnd (fun _=>Tot.sm ok6) (fun _ => ?_);refine Tot.bd (P:=fun v=>v.1=a2∧v.2.1=f2) (Tot.cnd (fun _=>Tot.sm ⟨rfl,rfl⟩) (fun _=>Tot.sm ⟨rfl,rfl⟩)) fun v3 h3 => ?_
   obtain ⟨a3,f3,c3⟩:=v3;obtain ⟨e1,e2⟩:=h3;simp only at e1 e2;subst e1 e2;refine Tot.cnd (fun _ => ?_) (fun _ => ?_)
   ·refine Tot.bd (pickP 3 h (by omega) (by omega)) fun v h => ?_
    refine Tot.bd (Tot.ixT h.1 (by simpa using h.2.1)) fun w _ => ?_
    exact Tot.bd (pickP _ h.2.2 (by omega) (show (1:Int)≤(f3.2.2.2.1.length:Int) by omega)) fun v h=>Tot.sm (h.2.2.mono (by omega))
   ·refine Tot.bd (P:=fun v=>v.1=a3∧v.2.1=f3) (Tot.cnd (fun _=>Tot.sm ⟨rfl,rfl⟩) (fun _=>Tot.sm ⟨rfl,rfl⟩)) fun v4 h4 => ?_
    obtain ⟨a4,f4,c4⟩:=v4;obtain ⟨e1,e2⟩:=h4;simp only at e1 e2;subst e1 e2;refine Tot.cnd (fun _ => ?_) (fun _=>Tot.sm ⟨rfl,rfl⟩);exact Tot.bd (pickP _ h (by omega) (show (1:Int)≤(f4.2.2.2.1.length:Int) by omega)) fun v h=>Tot.sm (h.2.2.mono (by omega))
 ·cases v8 with
  | inl x=>exact Tot.sm h8
  | inr x =>
   obtain ⟨a6,f6,c6⟩:=x;obtain ⟨e1,e2⟩:=h8;simp only at e1 e2;subst e1 e2;exact Tot.bd (l21Lively_t h (by omega) hf) fun v h=>Tot.sm h
theorem l21Given_t {r:l20Rd} {B:Int} {f:FloFlow} (a:Int) (h:Ok B r) (hB:B≤80000) (hf:FD f):Tot (fun v=>Ok (B+6) v.2) (s_l21Given (r,f,a)):=by
 have hs:=hf.s;have ht:=hf.t;have ok6:=h.mono (C:=B+6) (by omega);simp only [s_l21Given];refine Tot.bd (P:=fun v=>match v with|.inl x=>x.1=r|.inr x=>x.1=r∧x.2.1=f) ?_ fun v8 h8 => ?_
 ·refine Tot.iter (fun s:l20Rd×FloFlow×(Int×Int×Int)×Int=>s.1=r∧s.2.1=f∧0≤s.2.2.2∧s.2.2.2≤f.2.2.2.1.length) (fun s=>((f.2.2.2.1.length:Int)-s.2.2.2).toNat) (fun s hs' => ?_) ⟨rfl,rfl,by simp,by simp⟩;obtain ⟨rd,f',z,i⟩:=s;obtain ⟨e1,e2,i0,i1⟩:=hs';simp only at e1 e2 i0 i1;subst e1 e2;refine Tot.bd (P:=fun v=>v.1=rd∧v.2.1=f'∧(v.2.2.2=true→i<f'.2.2.2.1.length)) (Tot.cnd (fun hc=>Tot.sm ⟨rfl,rfl,fun _=>by simpa using hc⟩) (fun _=>Tot.sm ⟨rfl,rfl,by simp⟩)) fun v2 h2 => ?_
  obtain ⟨a2,f2,z2,c2⟩:=v2;obtain ⟨e1,e2,e3⟩:=h2;simp only at e1 e2 e3;subst e1 e2;refine Tot.cnd (fun hc => ?_) (fun _=>Tot.sm ⟨rfl,rfl⟩);have hil:=e3 hc;refine Tot.bd (P:=fun v=>match v with|.inl x=>x.1=a2|.inr x=>x.1=a2∧x.2.1=f2) ?_ fun v9 h9 => ?_
  ·refine Tot.iter (fun s:l20Rd×FloFlow×(Int×Int×Int)×Int=>s.1=a2∧s.2.1=f2∧0≤s.2.2.2∧s.2.2.2≤f2.2.2.1.length) (fun s=>((f2.2.2.1.length:Int)-s.2.2.2).toNat) (fun s hs' => ?_) ⟨rfl,rfl,by simp,by simp⟩;obtain ⟨rd3,f3,z3,k⟩:=s;obtain ⟨e1,e2,k0,k1⟩:=hs';simp only at e1 e2 k0 k1;subst e1 e2;refine Tot.cnd (fun hc => ?_) (fun _=>Tot.sm ⟨rfl,rfl⟩);have hk:k<f3.2.2.1.length:=by simpa using hc
   refine Tot.bd (P:=fun v=>v.1=rd3∧v.2.1=f3) ?_ fun v8 h8 => ?_
   ·refine Tot.bd (Tot.ixT i0 hil) fun v4 h4 => ?_
    have h5:=hf.i v4 h4;refine Tot.bd (Tot.ixT k0 (show k<(v4.1.length:Int) by omega)) fun v5 _ => ?_
    refine Tot.cnd (fun _ => ?_) (fun _=>Tot.sm ⟨rfl,rfl⟩);refine Tot.bd (Tot.ixT i0 hil) fun v6 h6 => ?_
    have h7:=hf.i v6 h6;exact Tot.bd (Tot.ixT k0 (show k<(v6.1.length:Int) by omega)) fun v5 _=>Tot.sm ⟨rfl,rfl⟩
   ·obtain ⟨a8,f8,z8,c8⟩:=v8;obtain ⟨e1,e2⟩:=h8;simp only at e1 e2;subst e1 e2;refine Tot.cnd (fun _=>Tot.sm rfl) (fun _=>Tot.sm ?_);have w1:w6 (k+1)=k+1:=w6_id (by omega) (by omega);simp only [w1];refine ⟨⟨rfl,rfl,by simp only;omega,by simp only;omega⟩,?_⟩;show ((f8.2.2.1.length:Int)-(k+1)).toNat<((f8.2.2.1.length:Int)-k).toNat;omega
  ·cases v9 with
   | inl x=>exact Tot.sm h9
   | inr x =>
    obtain ⟨a6,f6,z6⟩:=x;obtain ⟨e1,e2⟩:=h9;simp only at e1 e2;subst e1 e2;refine Tot.sm ?_;have w1:w6 (i+1)=i+1:=w6_id (by omega) (by omega);simp only [w1];refine ⟨⟨rfl,rfl,by simp only;omega,by simp only;omega⟩,?_⟩;show ((f6.2.2.2.1.length:Int)-(i+1)).toNat<((f6.2.2.2.1.length:Int)-i).toNat;omega
 ·cases v8 with
  | inl x =>
   obtain ⟨a6,x6⟩:=x;simp only at h8;subst h8;exact Tot.sm ok6
  | inr x =>
   obtain ⟨a6,f6,z6⟩:=x;obtain ⟨e1,e2⟩:=h8;simp only at e1 e2;subst e1 e2;simp only [cs_r];refine Tot.bd (P:=fun v=>match v with|.inl x=>x.1=a6|.inr x=>x.1=a6∧x.2.1=f6) ?_ fun v9 h9 => ?_
   ·refine Tot.iter (fun s:l20Rd×FloFlow×(Int×Int×Int)×Int=>s.1=a6∧s.2.1=f6∧0≤s.2.2.2∧s.2.2.2≤f6.2.2.1.length) (fun s=>((f6.2.2.1.length:Int)-s.2.2.2).toNat) (fun s hs' => ?_) ⟨rfl,rfl,by simp,by simp⟩;obtain ⟨rd,f',z,i⟩:=s;obtain ⟨e1,e2,i0,i1⟩:=hs';simp only at e1 e2 i0 i1;subst e1 e2;refine Tot.bd (P:=fun v=>v.1=rd∧v.2.1=f'∧(v.2.2.2=true→i<f'.2.2.1.length)) (Tot.cnd (fun hc=>Tot.sm ⟨rfl,rfl,fun _=>by simpa using hc⟩) (fun _=>Tot.sm ⟨rfl,rfl,by simp⟩)) fun v2 h2 => ?_
    obtain ⟨a2,f2,z2,c2⟩:=v2;obtain ⟨e1,e2,e3⟩:=h2;simp only at e1 e2 e3;subst e1 e2;refine Tot.cnd (fun hc => ?_) (fun _=>Tot.sm ⟨rfl,rfl⟩);have hil:=e3 hc;refine Tot.bd (Tot.ixT i0 hil) fun v4 h4 => ?_
    refine Tot.cnd (fun _=>Tot.sm rfl) (fun _=>Tot.sm ?_);have w1:w6 (i+1)=i+1:=w6_id (by omega) (by omega);simp only [w1];refine ⟨⟨rfl,rfl,by simp only;omega,by simp only;omega⟩,?_⟩;show ((f2.2.2.1.length:Int)-(i+1)).toNat<((f2.2.2.1.length:Int)-i).toNat;omega
   ·cases v9 with
    | inl x =>
     obtain ⟨a7,x7⟩:=x;simp only at h9;subst h9;exact Tot.sm ok6
    | inr x =>
     obtain ⟨a7,f7,z7⟩:=x;obtain ⟨e1,e2⟩:=h9;simp only at e1 e2;subst e1 e2;simp only [cs_r];refine Tot.cnd (fun _=>Tot.sm ok6) (fun _=>Tot.gd (by decide) (Tot.cnd (fun _ => ?_) (fun _=>Tot.sm ok6)));exact Tot.bd (pickP _ h (by omega) (by omega)) fun v h=>Tot.sm (h.2.2.mono (by omega))
theorem FI.fd {k:Int} {f:FloFlow} (h:FI k f):FD f:=h.ok.fd
theorem FI.sn {k:Int} {f:FloFlow} (h:FI k f):snSm (cSnaps (fC f)):=smC_sn h.ok.ckp.sm
def fRuns (f:FloFlow) (l:List EvEvent):FloFlow:=l.foldl fStep f
theorem fRuns_FI {k:Int}:∀ (l:List EvEvent) (f:FloFlow),FI k f→k+l.length≤490→FI (k+l.length) (fRuns f l)∧(fRuns f l).1=f.1∧(fRuns f l).2.1=f.2.1:=by
 intro l;induction l generalizing k with
 | nil=>intro f h _;exact ⟨h.mono (by simp),rfl,rfl⟩
 | cons e l ih =>
  intro f h hk;simp only [List.length_cons] at hk;obtain ⟨h1,h2,h3⟩:=fStep_ok h (by omega) e;obtain ⟨i1,i2,i3⟩:=ih (fStep f e) h1 (by omega);refine ⟨?_,i2.trans h2,i3.trans h3⟩;have e2:k+1+(l.length:Int)=k+((e::l).length:Int):=by simp only [List.length_cons];omega
  rw [← e2];exact i1
theorem l21Plays_t {r:l20Rd} {B k:Int} {f:FloFlow} (n:Int) (h:Ok B r) (hB:B≤40000) (hf:FI k f) (hn:n≤200) (hk:k+n≤400) (hk0:k≤400) :
  Tot (fun v=>Ok (B+2+20*200) v.2.2∧(v.1.length:Int)≤(if 0≤n then n else 0)∧v.2.1=fRuns f v.1) (s_l21Plays (r,f,n)):=by
 simp only [s_l21Plays];refine Tot.bd (pickP 4 h (by omega) (by omega)) fun v1 h1 => ?_
 refine Tot.bd (P:=fun v=>Ok (B+2+20*200) v.1∧(v.2.2.2.length:Int)≤(if 0≤n then n else 0)∧v.2.1=fRuns f v.2.2.2) ?_ fun v h=>Tot.sm h
 refine Tot.iter (fun s:l20Rd×FloFlow×FloFlow×List EvEvent×Int×Int=>s.2.1=fRuns f s.2.2.2.1∧(0≤s.2.2.2.2.2∧(s.2.2.2.1.length:Int)=s.2.2.2.2.2∧s.2.2.2.2.2≤(if 0≤n then n else 0))∧Ok (B+1+20*s.2.2.2.2.2) s.1∧(0≤s.2.2.2.2.1∧s.2.2.2.2.1≤22)) (fun s=>(n-s.2.2.2.2.2).toNat) (fun s hs' => ?_) ⟨rfl,⟨by simp,by simp,by simp only;split<;>omega⟩,h1.2.2.mono (by simp),by simp,by simp⟩;obtain ⟨rd,g,z,out,st,i⟩:=s;obtain ⟨hg,⟨i0,il,i1⟩,ho,⟨t0,t1⟩⟩:=hs';simp only at hg i0 il i1 ho t0 t1;refine Tot.bd (P:=fun v=>v.1=rd∧v.2.1=g∧v.2.2.2.1=out∧(v.2.2.2.2=true→i<n)) (Tot.cnd (fun hc=>Tot.sm ⟨rfl,rfl,rfl,fun _=>by simpa using hc⟩) (fun _=>Tot.sm ⟨rfl,rfl,rfl,by simp⟩)) fun v3 h3 => ?_
 obtain ⟨rd3,g3,z3,out3,c3⟩:=v3;obtain ⟨e1,e2,e3,e4⟩:=h3;simp only at e1 e2 e3 e4;subst e1 e2 e3;refine Tot.cnd (fun hc => ?_) (fun _=>Tot.sm ⟨ho.mono (by split at i1<;>omega),by simp only;omega,hg⟩);have hin:=e4 hc;have hFI:FI (k+out3.length) g3:=by
  rw [hg];exact (fRuns_FI out3 f hf (by omega)).1
 have hfd:=hFI.fd;have hi200:i<200:=by omega
 simp only;refine Tot.bd (l21Event_t ho (by omega) hfd) fun v4 h4 => ?_
 refine Tot.bd (P:=fun v=>Ok (B+1+20*i+20) v.1∧v.2.1=g3∧v.2.2.2.1=out3∧(0≤v.2.2.2.2.2∧v.2.2.2.2.2≤22)) ?_ fun v15 h15 => ?_
 ·refine Tot.cnd (fun hst => ?_) (fun _ => ?_)
  ·have hst:st<22:=by simpa using hst
   have w1:w6 (st+1)=st+1:=w6_id (by omega) (by omega);simp only [w1];exact Tot.bd (l21Story_t st h4 (by omega) hfd) fun v5 h5=>Tot.sm ⟨h5.mono (by omega),rfl,rfl,by simp only;omega,by simp only;omega⟩
  ·refine Tot.bd (P:=fun v=>Ok (B+1+20*i+4) v.1∧v.2.1=g3∧v.2.2.2.1=out3) ?_ fun v7 h7 => ?_
   ·refine Tot.cnd (fun _ => ?_) (fun _=>Tot.sm ⟨h4.mono (by omega),rfl,rfl⟩);exact Tot.bd (pickP 16 h4 (by omega) (by omega)) fun v h=>Tot.sm ⟨h.2.2.mono (by omega),rfl,rfl⟩
   ·obtain ⟨rd7,g7,z7,out7,e7,c7⟩:=v7;obtain ⟨o7,a1,a2⟩:=h7;simp only at o7 a1 a2;subst a1 a2;refine Tot.cnd (fun _ => ?_) (fun _ => ?_)
    ·exact Tot.bd (l21Story_t 0 o7 (by omega) hfd) fun v5 h5=>Tot.sm ⟨h5.mono (by omega),rfl,rfl,by simp,by simp⟩
    ·refine Tot.bd (P:=fun v=>Ok (B+1+20*i+5) v.1∧v.2.1=g7∧v.2.2.2.1=out7) ?_ fun v10 h10 => ?_
     ·refine Tot.cnd (fun _=>Tot.cnd (fun _ => ?_) (fun _=>Tot.sm ⟨o7.mono (by omega),rfl,rfl⟩)) (fun _=>Tot.sm ⟨o7.mono (by omega),rfl,rfl⟩);exact Tot.bd (pickP 20 o7 (by omega) (by omega)) fun v h=>Tot.sm ⟨h.2.2.mono (by omega),rfl,rfl⟩
     ·obtain ⟨rd10,g10,z10,out10,e10,c10⟩:=v10;obtain ⟨o10,a1,a2⟩:=h10;simp only at o10 a1 a2;subst a1 a2;refine Tot.cnd (fun _ => ?_) (fun _ => ?_)
      ·exact Tot.bd (l21Given_t i o10 (by omega) hfd) fun v5 h5=>Tot.sm ⟨h5.mono (by omega),rfl,rfl,by simp only;omega,by simp only;omega⟩
      ·refine Tot.bd (P:=fun v=>Ok (B+1+20*i+6) v.1∧v.2.1=g10∧v.2.2.2.1=out10) ?_ fun v13 h13 => ?_
       ·refine Tot.cnd (fun _ => ?_) (fun _=>Tot.sm ⟨o10.mono (by omega),rfl,rfl⟩);exact Tot.bd (pickP 5 o10 (by omega) (by omega)) fun v h=>Tot.sm ⟨h.2.2.mono (by omega),rfl,rfl⟩
       ·obtain ⟨rd13,g13,z13,out13,e13,c13⟩:=v13;obtain ⟨o13,a1,a2⟩:=h13;simp only at o13 a1 a2;subst a1 a2;refine Tot.cnd (fun _ => ?_) (fun _=>Tot.sm ⟨o13.mono (by omega),rfl,rfl,by simp only;omega,by simp only;omega⟩);exact Tot.bd (l21Lively_t o13 (by omega) hfd) fun v5 h5=>Tot.sm ⟨h5.mono (by omega),rfl,rfl,by simp only;omega,by simp only;omega⟩
 ·obtain ⟨rd15,g15,z15,out15,e15,st15⟩:=v15;obtain ⟨o15,a1,a2,⟨b0,b1⟩⟩:=h15;simp only at o15 a1 a2 b0 b1;subst a1 a2;refine Tot.gd (show (out15.length+[e15].length)*24≤140737488355328 by simp only [List.length_singleton];split at i1<;>omega) ?_;have hst:=s_FloStep_ve g15 e15 hFI.sn;simp only [hst,bd_s];refine Tot.sm ?_;have w1:w6 (i+1)=i+1:=w6_id (by omega) (by omega);simp only [w1];refine ⟨⟨?_,⟨by simp only;omega,by simp only [List.length_append,List.length_singleton];omega,by simp only;split<;>omega⟩,o15.mono (by simp only;omega),b0,b1⟩,?_⟩
  ·simp only [fRuns,List.foldl_append,List.foldl_cons,List.foldl_nil];rw [hg];rfl
  ·show (n-(i+1)).toNat<(n-i).toNat;omega
theorem l21Begin_t {r:l20Rd} {B:Int} (h:Ok B r) (hB:B≤40000):Tot (fun v=>FI 0 v.1∧(∃ j a,v.1=floNew j a∧jobOk j=true∧(a.length:Int)=j.1∧∀ l,l∈a→logOk l=true)∧Ok (B+1100) v.2) (s_l21Begin r):=by
 simp only [s_l21Begin];refine Tot.bd (l20Job_t h (by omega)) fun v1 h1 => ?_
 have hS:=job_S h1.1;refine Tot.bd (l21Logs_t v1.1 h1.2 (by omega) (by omega) (by omega)) fun v2 h2 => ?_
 have hl:∀ l,l∈v2.1→logOk l=true:=fun l hl=>(h2.1.2 l hl).1
 have e1:s_FloNew_v (v1.1,v2.1)=some (floNew v1.1 v2.1):=s_FloNew_e ..;simp only [e1,bd_s];have hb:((v2.1.length:Int)==v1.1.1)=true:=by simpa using h2.1.1
 have ha:(v2.1.any fun l => !logOk l)=false:=by
  rw [List.any_eq_false];intro l hl';simp [hl l hl']
 have e2:floNew v1.1 v2.1=flo0 v1.1 v2.1 v1.1.1.toNat v1.1.2.1.toNat:=by
  simp only [floNew,h1.1,hb,ha,Bool.not_false,Bool.and_self,if_true]
 refine Tot.sm ⟨?_,⟨_,_,rfl,h1.1,h2.1.1,hl⟩,h2.2.mono (by omega)⟩;rw [e2];exact flo0_FI h1.1 h2.1.1 hl
theorem l21Flow_t {r:l20Rd} {B:Int} (h:Ok B r) (hB:B≤20000):Tot (fun v=>FI 70 v.1∧(∃ j a l,v.1=fRuns (floNew j a) l∧jobOk j=true∧(a.length:Int)=j.1∧(∀ l,l∈a→logOk l=true)∧l.length≤70)∧Ok (B+6000) v.2) (s_l21Flow r):=by
 simp only [s_l21Flow];refine Tot.bd (l21Begin_t h (by omega)) fun v1 h1 => ?_
 obtain ⟨h1,⟨j,a,e,hj,ha,hl⟩,ho⟩:=h1;refine Tot.bd (pickP 70 ho (by omega) (by omega)) fun v2 h2 => ?_
 refine Tot.bd (pickP 5 h2.2.2 (by omega) (by omega)) fun v3 h3 => ?_
 refine Tot.bd (Tot.ixT h3.1 (by simpa using h3.2.1)) fun v4 h4 => ?_
 have b4:0≤v4∧v4≤70:=by simp only [List.mem_cons,List.not_mem_nil,or_false] at h4;omega
 clear h4;refine Tot.bd (l21Plays_t v4 h3.2.2 (by omega) h1 (by omega) (by omega) (by omega)) fun v5 h5 => ?_
 obtain ⟨h5,h6,h7⟩:=h5;have hlen:(v5.1.length:Int)≤70:=by split at h6<;>omega
 refine Tot.sm ⟨?_,⟨j,a,v5.1,by rw [h7,e],hj,ha,hl,by omega⟩,h5.mono (by omega)⟩;rw [h7];exact (fRuns_FI v5.1 _ h1 (by omega)).1.mono (by omega)
theorem l20Win_t {r:l20Rd} {B:Int} (a:Int) (ha:1≤a) (h:Ok B r) (hB:B≤80000):Tot (fun v=>Ok (B+9) v.2) (s_l20Win (r,a)):=by
 simp only [s_l20Win];refine Tot.bd (pickP 40 h (by omega) (by omega)) fun v1 h1 => ?_
 refine Tot.bd (pickP 5 h1.2.2 (by omega) (by omega)) fun v2 h2 => ?_
 refine Tot.bd (Tot.ixT h2.1 (by simpa using h2.2.1)) fun v3 _ => ?_
 refine Tot.bd (pickP 4 h2.2.2 (by omega) (by omega)) fun v4 h4 => ?_
 refine Tot.bd (Tot.ixT h4.1 (by simpa using h4.2.1)) fun v5 _ => ?_
 refine Tot.bd (pickP a h4.2.2 (by omega) ha) fun v6 h6 => ?_
 refine Tot.bd (P:=fun v=>Ok (B+9) v.1) ?_ fun v h=>Tot.sm h
 refine Tot.cnd (fun _ => ?_) (fun _=>Tot.sm (h6.2.2.mono (by omega)));refine Tot.bd (pickP 2 h6.2.2 (by omega) (by omega)) fun v7 h7 => ?_
 refine Tot.cnd (fun _ => ?_) (fun _ => ?_)
 ·refine Tot.bd (pickP 3 h7.2.2 (by omega) (by omega)) fun v8 h8 => ?_
  exact Tot.bd (Tot.ixT h8.1 (by simpa using h8.2.1)) fun v9 _=>Tot.sm (h8.2.2.mono (by omega))
 ·refine Tot.bd (pickP 4 h7.2.2 (by omega) (by omega)) fun v8 h8 => ?_
  exact Tot.bd (Tot.ixT h8.1 (by simpa using h8.2.1)) fun v9 _=>Tot.sm (h8.2.2.mono (by omega))
theorem l20Agg_t {r:l20Rd} {B:Int} (a:Int) (ha:1≤a) (h:Ok B r) (hB:B≤80000):Tot (fun v=>Ok (B+12) v.2) (s_l20Agg (r,a)):=by
 simp only [s_l20Agg];refine Tot.bd (pickP 6 h (by omega) (by omega)) fun v1 h1 => ?_
 refine Tot.bd (P:=fun v=>Ok (B+7) v.1) ?_ fun v5 h5 => ?_
 ·refine Tot.iter (fun s:l20Rd×AggAgg×AggAgg×Int=>Ok (B+7-s.2.2.2) s.1∧(0≤s.2.2.2∧s.2.2.2≤5)) (fun s=>s.2.2.2.toNat) (fun s hs' => ?_) ⟨h1.2.2.mono (by simp only;omega),by simp only;omega,by simp only;omega⟩;obtain ⟨rd,z,g,i⟩:=s;obtain ⟨ho,i0,i1⟩:=hs';simp only at ho i0 i1;refine Tot.cnd (fun hc => ?_) (fun hc=>Tot.sm (ho.mono (by omega)));have hc:i>0:=by simpa using hc
  refine Tot.bd (pickP 19 ho (by omega) (by omega)) fun v3 h3 => ?_
  simp only [s_AggAdd_e,bd_s];have w1:w6 (i-1)=i-1:=w6_id (by omega) (by omega);simp only [w1];refine Tot.sm ⟨⟨h3.2.2.mono (by simp only;omega),by simp only;omega,by simp only;omega⟩,?_⟩;show (i-1).toNat<i.toNat;omega
 ·refine Tot.bd (pickP a h5 (by omega) ha) fun v6 h6 => ?_
  refine Tot.cnd (fun _=>Tot.sm (h6.2.2.mono (by omega))) (fun _ => ?_);refine Tot.bd (pickP 6 h6.2.2 (by omega) (by omega)) fun v7 h7 => ?_
  refine Tot.bd (Tot.ixT h7.1 (by simpa using h7.2.1)) fun v8 _ => ?_
  refine Tot.bd (pickP 4 h7.2.2 (by omega) (by omega)) fun v9 h9 => ?_
  have ho:=h9.2.2.mono (C:=B+12) (by omega);refine Tot.bd (P:=fun v=>Ok (B+12) v.1) ?_ fun v h=>Tot.sm h
  exact Tot.cnd (fun _=>Tot.sm ho) (fun _=>Tot.cnd (fun _=>Tot.sm ho) (fun _=>Tot.cnd (fun _=>Tot.sm ho) (fun _=>Tot.sm ho)))
theorem upd_len {α:Type} (l:List α) (n:Nat) (x:α) (h:n<l.length):(l.take n++x::l.drop (n+1)).length=l.length:=by
 rw [upd_set _ h,List.length_set]
theorem l21BadOp_t {r:l20Rd} {B:Int} (s:OpState) (hs:s.2.length≤10000) (h:Ok B r) (hB:B≤70000):Tot (fun v=>v.1.2.length≤s.2.length+1∧Ok (B+20) v.2) (s_l21BadOp (r,s)):=by
 simp only [s_l21BadOp,s_l7Copy_e s (by omega),bd_s];refine Tot.bd (P:=fun v=>Ok (B+1) v.1∧v.2.1=s∧(v.2.2.2=false→0<s.2.length)) ?_ fun v3 h3 => ?_
 ·refine Tot.cnd (fun _=>Tot.sm ⟨h.mono (by omega),rfl,by simp⟩) (fun hc => ?_);have hc:s.2≠[]:=by simpa using hc
  exact Tot.bd (pickP 4 h (by omega) (by omega)) fun v2 h2=>Tot.sm ⟨h2.2.2,rfl,fun _=>List.length_pos_iff.2 hc⟩
 ·obtain ⟨rd,s3,z3,c3⟩:=v3;obtain ⟨ho,e,hne⟩:=h3;simp only at ho e hne;subst e;refine Tot.cnd (fun _ => ?_) (fun hc => ?_)
  ·refine Tot.bd (pickP 4 ho (by omega) (by omega)) fun v4 h4 => ?_
   exact Tot.bd (Tot.ixT h4.1 (by simpa using h4.2.1)) fun v5 _=>Tot.sm ⟨by simp,h4.2.2.mono (by omega)⟩
  ·have hpos:=hne hc;refine Tot.bd (pickP _ ho (by omega) (show (1:Int)≤(s3.2.length:Int) by omega)) fun v6 h6 => ?_
   refine Tot.bd (pickP 7 h6.2.2 (by omega) (by omega)) fun v7 h7 => ?_
   have hix:Tot (fun _=>True) (ix s3.2 v6.1):=(Tot.ixT h6.1 h6.2.1).mono fun _ _=>trivial
   have h62:v6.1<(s3.2.length:Int):=h6.2.1;have hn:v6.1.toNat<s3.2.length:=by omega
   have hul:∀ x,(s3.2.take v6.1.toNat++x::s3.2.drop (v6.1.toNat+1)).length≤s3.2.length+1:=fun x=>by rw [upd_len _ _ _ hn];omega
   refine Tot.bd (P:=fun v=>v.2.1.2.length≤s3.2.length+1∧Ok (B+20) v.1) ?_ fun v h=>Tot.sm h
   refine Tot.cnd (fun _ => ?_) (fun _=>Tot.cnd (fun _ => ?_) (fun _=>Tot.cnd (fun _ => ?_) (fun _=>Tot.cnd (fun _ => ?_) (fun _=>Tot.cnd (fun _ => ?_) (fun _=>Tot.cnd (fun _ => ?_) (fun _ => ?_))))))
   ·refine Tot.bd (pickP 2 h7.2.2 (by omega) (by omega)) fun v8 h8 => ?_
    refine Tot.bd (Tot.ixT h8.1 (by simpa using h8.2.1)) fun v9 _ => ?_
    exact Tot.bd hix fun v10 _=>Tot.sm ⟨hul _,h8.2.2.mono (by omega)⟩
   ·refine Tot.bd (l20Win_t 2 (by omega) h7.2.2 (by omega)) fun v8 h8 => ?_
    exact Tot.bd hix fun v10 _=>Tot.sm ⟨hul _,h8.mono (by omega)⟩
   ·refine Tot.bd (l20Agg_t 2 (by omega) h7.2.2 (by omega)) fun v8 h8 => ?_
    exact Tot.bd hix fun v10 _=>Tot.sm ⟨hul _,h8.mono (by omega)⟩
   ·refine Tot.bd (l20Agg_t 2 (by omega) h7.2.2 (by omega)) fun v8 h8 => ?_
    exact Tot.bd hix fun v10 _=>Tot.sm ⟨hul _,h8.mono (by omega)⟩
   ·refine Tot.bd (pickP 4 h7.2.2 (by omega) (by omega)) fun v8 h8 => ?_
    refine Tot.bd (Tot.ixT h8.1 (by simpa using h8.2.1)) fun v9 _ => ?_
    exact Tot.bd hix fun v10 _=>Tot.sm ⟨hul _,h8.2.2.mono (by omega)⟩
   ·exact Tot.bd hix fun v10 _=>Tot.gd trivial (Tot.sm ⟨hul _,h7.2.2.mono (by omega)⟩)
   ·exact Tot.bd hix fun v10 _=>Tot.gd (show (s3.2.length+[v10].length)*104≤140737488355328 by simp only [List.length_singleton];omega) (Tot.sm ⟨by simp,h7.2.2.mono (by omega)⟩)
structure CD (f:FloFlow) (c:CkpState):Prop where
 s:c.2.2.1.length=f.2.2.1.length
 t:c.2.2.2.1.length=f.2.2.2.1.length
 p:c.2.2.2.2.1.length=f.2.2.2.1.length
 pp:∀ s,s∈c.2.2.2.2.1→s.1.2.length≤2000∧s.2.length≤2000
 a:c.2.2.2.2.2.2.1.length=f.2.2.1.length
 z:c.2.2.2.2.2.2.2.length=f.2.2.2.1.length
 zz:∀ s,s∈c.2.2.2.2.2.2.2→s.1.2.length≤2000∧s.2.length≤2000
theorem FI.cd {k:Int} {f:FloFlow} (h:FI k f):CD f (fC f):=by
 have hc:=h.ok.ckp;have hS:=job_S hc.job;have e1:=hc.srcl;have e2:=hc.tskl;have e3:=hc.snpl;have e4:=hc.atl;have e5:=hc.ssl;have e6:((f.2.2.1.length:Nat):Int)=(fJ f).1:=h.ok.sl;have e7:((f.2.2.2.1.length:Nat):Int)=(fJ f).2.1:=h.ok.tl;refine ⟨by omega,by omega,by omega,?_,by omega,by omega,?_⟩
 ·intro s hs;obtain ⟨i,hi,rfl⟩:=List.mem_iff_getElem.1 hs;have:=pTsnap_sm hc.job (hc.snp i (by omega) hi);omega
 ·intro s hs;have:=pSnap_sm (hc.ss s hs);omega
theorem CD.sm {f:FloFlow} {c:CkpState} (h:CD f c) (hf:FD f):smC c:=by
 have h1:=h.s;have h2:=h.t;have h3:=h.p;have h4:=h.a;have h5:=h.z;have:=hf.s;have:=hf.t;exact ⟨by omega,by omega,by omega,fun s hs=>by have:=h.pp s hs;omega,by omega,by omega,fun s hs=>by have:=h.zz s hs;omega⟩
theorem low_first (x:Int) (l:List Int) (h:x≤1000):lowI (x::l)=l.foldl (fun n m=>if m<n then m else n) x:=by
 simp only [lowI,List.foldl_cons];split
 ·rfl
 ·have:x=1000:=by omega
  rw [this]
theorem g_Min_e (l:List Int) (hl:0<l.length) (h:l.length<1000000000) (hb:∀ m,m∈l→m≤1000):g_Min_int l=some (lowI l):=by
 cases l with
 | nil=>simp at hl
 | cons x l =>
  have hd:decide ((((x::l).length:Nat):Int)<1)=false:=by simp only [List.length_cons,decide_eq_false_iff_not];omega
  have h0:ix (x::l) (0:Int)=some x:=rfl;simp only [g_Min_int,hd,cnd_f,h0,bd_s];have key:∀ k i:Nat,i+k=(x::l).length→∀ n:Int,iter (A:=Int×Int) (B:=Int) (fun v2=>cnd (decide (v2.2<(((x::l).length:Nat):Int))) (bd (ix (x::l) v2.2) fun v3=>some (.inl ((if v3<v2.1 then v3 else v2.1),w6 (v2.2+1)))) (some (.inr v2.1))) (n,(i:Int))=some (((x::l).drop i).foldl (fun n m=>if m<n then m else n) n):=by
   intro k;induction k with
   | zero =>
    intro i hi n;rw [it_u];have hd:decide ((i:Int)<(((x::l).length:Nat):Int))=false:=by simp only [decide_eq_false_iff_not];omega
    simp only [hd,cnd_f,bd_s,cs_r];rw [List.drop_of_length_le (by omega)];rfl
   | succ k ih =>
    intro i hi n;have hlt:i<(x::l).length:=by omega
    rw [it_u];simp only [lt_d hlt,cnd_t,ix_t hlt,bd_s,cs_l,w6_s hlt h];have:=ih (i+1) (by omega) (if (x::l)[i]<n then (x::l)[i] else n);rw [List.drop_eq_getElem_cons hlt,List.foldl_cons];exact this
  have:=key l.length 1 (by simp;omega) x;have e:((1:Nat):Int)=1:=rfl;rw [e] at this;rw [this,low_first x l (hb x (List.mem_cons_self ..))];rfl
theorem i_told_e (a:List PanPane) (b:List LatPair) (m:Int) (hm:m≤1500):i_told (a,b,m)=some (decide ((a.length:Int)≤m)&&decide ((b.length:Int)≤m)&&a.all pPan&&b.all pLat):=by
 simp only [i_told];cases h1:decide ((a.length:Int)≤m)
 ·rfl
 cases h2:decide ((b.length:Int)≤m)
 ·rfl
 have h1':(a.length:Int)≤m:=by simpa using h1
 have h2':(b.length:Int)≤m:=by simpa using h2
 have e1:=cF_PanPane a i_told__1 (fun x => !pPan x) (fun x _=>by simp only [i_told__1,i_PanOk_e,bd_s]) (by omega);have e2:=cF_LatPair b i_told__2 (fun x => !pLat x) (fun x _=>by simp only [i_told__2,i_LatOk_e,bd_s]) (by omega);have n1:(a.any fun x => !pPan x) = !a.all pPan:=by rw [List.not_all_eq_any_not]
 have n2:(b.any fun x => !pLat x) = !b.all pLat:=by rw [List.not_all_eq_any_not]
 simp only [cl_e,e1,e2,n1,n2,bd_s,Bool.not_not,cnd_t,Bool.and_self,Bool.true_and];cases a.all pPan<;>rfl
theorem i_TskTxn_ok_e (x:TskTxn):i_TskTxn_ok x=some (pTxn x):=by
 simp only [i_TskTxn_ok,i_in_e,bd_s,i_told_e _ _ 1500 (Int.le_refl _),pTxn];cases inR x.1 0 900<;>rfl
theorem i_TskIn_ok_e (j:JobJob) (c:TskIn) (hj:j.2.2.2.2.2.2.2.2.2≤4):i_TskIn_ok (c,j)=some (pIn j c):=by
 simp only [i_TskIn_ok,i_isTime_e,bd_s,pIn];cases h1:decide ((c.1.length:Int)≤j.2.2.2.2.2.2.2.2.2)
 ·rfl
 have h1':(c.1.length:Int)≤j.2.2.2.2.2.2.2.2.2:=by simpa using h1
 have e1:=cF_ItmItem c.1 i_TskIn_ok_1 (fun x => !itmOk x) (fun x _=>by simp only [i_TskIn_ok_1,i_ItmOk_e,bd_s]) (by omega);have n1:(c.1.any fun x => !itmOk x) = !c.1.all itmOk:=by rw [List.not_all_eq_any_not]
 simp only [cl_e,e1,n1,bd_s,Bool.not_not,cnd_t,Bool.true_and];cases inR c.2.1 0 1000<;>rfl
theorem i_TskHeld_e (t:TskTask) (h:t.1.length<1000000000):i_TskHeld t=some (tHeld t):=by
 simp only [i_TskHeld];rw [fold_i t.1 (fun n c=>if c.2.2 then n+1 else n) (fun i n=>0≤n∧n≤(i:Int)) (fun n i=>(n,i)) (fun n=>n) 0 (by simp) (fun s=>by simp) (fun s i hi hI=>by
  refine ⟨?_,?_⟩
  ·split<;>omega
  ·have e:w6 (s+1)=s+1:=w6_id (by omega) (by omega);simp only [lt_d hi,ix_t hi,w6_s hi h,bd_s,cnd_t,cnd_if];by_cases hc:t.1[i].2.2=true<;>simp [hc,e])]
 rfl
theorem i_marks_e (t:TskTask) (h:t.1.length<1000000000):i_TskTask_marks t=some (t.1.map fun c=>c.2.1):=by
 simp only [i_TskTask_marks];have hm:∀ (l:List TskIn) (o:List Int),l.foldl (fun o c=>o++[c.2.1]) o=o++l.map fun c=>c.2.1:=by
  intro l;induction l with
  | nil=>intro o;simp
  | cons c l ih=>intro o;rw [List.foldl_cons,ih];simp
 rw [fold_i t.1 (fun o c=>o++[c.2.1]) (fun i o=>o.length=i) (fun n i=>(n,i)) (fun n=>n) [] (by simp) (fun s=>by simp) (fun s i hi hI=>by
  refine ⟨by simp [hI],?_⟩;have hg:(s.length+[t.1[i].2.1].length)*8≤140737488355328:=by simp only [List.length_cons,List.length_nil];omega
  simp only [lt_d hi,ix_t hi,w6_s hi h,bd_s,cnd_t,gd_t hg])]
 simp only [bd_s,hm,List.nil_append]
theorem lowm_map (l:List TskIn):∀ n:Int,(l.map fun c=>c.2.1).foldl (fun n m=>if m<n then m else n) n=l.foldl (fun n c=>if c.2.1<n then c.2.1 else n) n:=by
 induction l with
 | nil=>intro n;rfl
 | cons c l ih=>intro n;rw [List.map_cons,List.foldl_cons,List.foldl_cons,ih]
theorem lowm_le (l:List TskIn):∀ n:Int,l.foldl (fun n c=>if c.2.1<n then c.2.1 else n) n≤n:=by
 induction l with
 | nil=>intro n;exact Int.le_refl _
 | cons c l ih =>
  intro n;rw [List.foldl_cons];have:=ih (if c.2.1<n then c.2.1 else n);split at this<;>(split<;>omega)
theorem i_TskLow_e (t:TskTask) (h:t.1.length<100000) (hb:∀ c,c∈t.1→c.2.1≤1000):i_TskLow t=some (tLow t):=by
 have hg:((t.1.map fun c=>c.2.1).length+[(1000:Int)].length)*8≤140737488355328:=by simp only [List.length_map,List.length_cons,List.length_nil];omega
 have hmin:=g_Min_e ((t.1.map fun c=>c.2.1)++[1000]) (by simp) (by simp;omega) (fun m hm=>by
  rcases List.mem_append.1 hm with hm|hm
  ·obtain ⟨c,hc,rfl⟩:=List.mem_map.1 hm;exact hb c hc
  ·simp at hm;omega)
 have e:lowI ((t.1.map fun c=>c.2.1)++[1000])=tLow t:=by
  simp only [lowI,tLow,List.foldl_append,lowm_map,List.foldl_cons,List.foldl_nil];have:=lowm_le t.1 1000;split<;>omega
 simp only [i_TskLow,i_marks_e t (by omega),bd_s,gd_t hg,hmin,e]
theorem i_TskOk_e (j:JobJob) (t:TskTask) (h:t.2.1.2.length<1000000000):i_TskOk (j,t)=some (pTsk j t):=by
 simp only [i_TskOk,i_OpOk_e j t.2.1 h,i_in_e,bd_s,bd_cnd,pTsk,bne_b];cases h1:pOp j t.2.1
 ·rfl
 have hj:=pOp_job h1;have hr:=job_R hj;have hs:=(job_S hj).1;cases h2:(t.1.length:Int)==j.1
 ·rfl
 have hl:t.1.length<100000:=by simp only [beq_iff_eq] at h2;omega
 have e1:=cF_TskIn t.1 (fun q=>i_TskOk__1 (q,j)) (fun c => !pIn j c) (fun x _=>by simp only [i_TskOk__1,i_TskIn_ok_e j x (by omega),bd_s]) (by omega);have n1:(t.1.any fun x => !pIn j x) = !t.1.all (pIn j):=by rw [List.not_all_eq_any_not]
 simp only [cl_e,e1,n1,bd_s,Bool.not_true,Bool.not_false,cnd_f,cnd_t,Bool.true_and];cases h3:t.1.all (pIn j)
 ·simp
 have hb:∀ c,c∈t.1→c.2.1≤1000:=fun c hc=>by
  have:=List.all_eq_true.1 h3 c hc;simp only [pIn,Bool.and_eq_true] at this;exact (inR_iff.1 this.1.2).2
 simp only [i_TskHeld_e t (by omega),i_TskLow_e t hl hb,i_TskTxn_ok_e,bd_s,Bool.not_true,cnd_f];cases decide (tHeld t<(t.1.length:Int))<;>cases inR t.2.2.1 0 900<;>cases t.2.1.1==tLow t<;>cases t.2.2.2.1==0<;>cases pTxn t.2.2.2<;>rfl
structure smF (f:FloFlow):Prop where
 ckp:smC (fC f)
 rows:∀ t,t∈fT f→t.2.1.2.length<1000000000
 ready:∀ s,s∈fK f→s.1.length<1000000000
def wt4:ItmItem→Int:=fun x=>if x.1==1 then 4 else 0
theorem wt4_w:Wt wt4 0:=⟨fun x=>by simp only [wt4];split<;>omega,by omega,fun x h=>by simp [wt4,h]⟩
theorem wt4_le (x:ItmItem):wt4 x≤4:=by simp only [wt4];split<;>omega
def DI (C:Int) (f:FloFlow):Prop:=FG wt4 (C-uns wt4 (fL f) (fS f)) f
theorem wsum4 (q:List ItmItem):wsum wt4 q≤wsum wt2 q+2*q.length:=by
 induction q with
 | nil=>simp [wsum]
 | cons x q ih =>
  have:=wt4_le x;simp only [wsum,List.foldr_cons,wt2,List.length_cons] at ih ⊢;omega
theorem qwt4 (l:List TskIn) (o:OpState×Int×TskTxn) (m:Nat) (h:∀ c,c∈l→c.1.length≤m):qwt wt4 (l,o)≤qwt wt2 (l,o)+2*(m*l.length):=by
 induction l with
 | nil=>simp [qwt]
 | cons c l ih =>
  have h1:=ih fun c hc=>h c (List.mem_cons_of_mem _ hc)
  have h2:=h c (List.mem_cons_self ..);have h3:=wsum4 c.1;have e:(m:Int)*((l.length+1:Nat):Int)=m*l.length+m:=by
   have:((l.length+1:Nat):Int)=(l.length:Int)+1:=by omega
   rw [this,Int.mul_add,Int.mul_one]
  simp only [qwt,List.foldr_cons,List.length_cons] at h1 ⊢;rw [e];omega
theorem wsum_len (q:List ItmItem):wsum wt4 q≤4*q.length:=by
 induction q with
 | nil=>simp [wsum]
 | cons x q ih=>have:=wt4_le x;simp only [wsum,List.foldr_cons,List.length_cons] at ih ⊢;omega
theorem uns_len:∀ (lg:List (List ItmItem)) (sr:List WinWin),(∀ l,l∈lg→l.length≤40)→uns wt4 lg sr≤160*lg.length
 | [],_,_=>by simp [uns]
 | _::_,[],_=>by simp only [uns,List.length_cons];omega
 | l::lg,s::sr,h=>by
  have:=uns_len lg sr fun l hl=>h l (List.mem_cons_of_mem _ hl)
  have h1:=h l (List.mem_cons_self ..);have h2:=wsum_len (l.drop s.1.toNat);simp only [List.length_drop] at h2;simp only [uns,List.length_cons];omega
theorem FI.di {k:Int} {f:FloFlow} (h:FI k f):DI (2*k+504) f:=by
 obtain ⟨n1,n2,n3,n4,_,_⟩:=h.ok.lens;have hu:=uns_len (fL f) (fS f) h.ok.log_sm;have hun:=uns_nn wt4_w.nn (fL f) (fS f);refine ⟨h.ok,?_,fun i a b c=>(h.snp i a b c).mono (by omega),fun s hs=>(h.sfs s hs).mono (by omega),h.src⟩;intro t ht;have hti:=h.tsk t ht;have hsm:=pTsk_sm (h.ok.tsk t ht).1;refine ⟨hti.ok,hti.op.mono ?_,hti.wl,hti.qw⟩;have hq:=qwt4 t.1 t.2 4 hsm.2.2.2.2;have h3:=hsm.2.2.2.1;have e:((4:Nat):Int)*(t.1.length:Int)≤12:=by omega
 have e2:qwt wt4 t≤qwt wt2 t+2*(((4:Nat):Int)*(t.1.length:Int)):=hq;omega
theorem DI.ok {C:Int} {f:FloFlow} (h:DI C f):FloP f:=FG.ok h
structure DJ (C:Int) (j:JobJob) (lg:List (List ItmItem)) (f:FloFlow):Prop where
 di:DI C f
 job:f.1=j
 log:f.2.1=lg
theorem DJ.src {C:Int} {j:JobJob} {lg:List (List ItmItem)} {f:FloFlow} (h:DJ C j lg f) (i:Int):DJ C j lg (fSrc f i):=by
 have hu:=uns_src (b:=4) wt4_w.nn wt4_le h.di.ok i;have hw:∀ N,wt4 (3,0,0,0,N)=0:=fun _=>rfl
 have:=src_ok (w:=wt4) (K:=C-uns wt4 (fL f) (fS f)) (K':=C-uns wt4 (fL f) (fS (fSrc f i))) (by omega) (fun N=>by rw [hw];omega) h.di i (by omega);obtain ⟨h1,h2,h3⟩:=this;refine ⟨?_,h2.trans h.job,h3.trans h.log⟩;have h3':fL (fSrc f i)=fL f:=h3;unfold DI;rw [h3'];exact h1
theorem fTask_S (f:FloFlow) (i c:Int):(fTask f i c).2.2.1=f.2.2.1:=by
 simp only [fTask];split
 ·rfl
 ·split<;>rfl
theorem DJ.tsk {C:Int} (hC:C≤1000) {j:JobJob} {lg:List (List ItmItem)} {f:FloFlow} (h:DJ C j lg f) (i c:Int):DJ C j lg (fTask f i c):=by
 have hun:=uns_nn wt4_w.nn (fL f) (fS f);obtain ⟨h1,h2,h3⟩:=task_ok wt4_w h.di (by omega) i c;refine ⟨?_,h2.trans h.job,h3.trans h.log⟩;have h3':fL (fTask f i c)=fL f:=h3;have h4':fS (fTask f i c)=fS f:=fTask_S f i c;unfold DI;rw [h3',h4'];exact h1.mono (by omega)
def rCkp (f:FloFlow):FloFlow:=(f.1,f.2.1,f.2.2.1,f.2.2.2.1,f.2.2.2.2.1,(pCkpSave f.1 (pCkpAsk f.1 (fC f))).1)
theorem DJ.ckp {C:Int} {j:JobJob} {lg:List (List ItmItem)} {f:FloFlow} (h:DJ C j lg f):DJ C j lg (rCkp f):=⟨save_ok (ask_ok h.di),h.job,h.log⟩
theorem l20Pane_t {r:l20Rd} {B:Int} (a:Int) (ha:1≤a) (h:Ok B r) (hB:B≤70000):Tot (fun v=>Ok (B+40) v.2) (s_l20Pane (r,a)):=by
 simp only [s_l20Pane];refine Tot.bd (pickP 3 h (by omega) (by omega)) fun v1 h1 => ?_
 refine Tot.bd (pickP 3 h1.2.2 (by omega) (by omega)) fun v2 h2 => ?_
 refine Tot.bd (Tot.ixT h2.1 (by simpa using h2.2.1)) fun v3 _ => ?_
 refine Tot.bd (l20Agg_t 99 (by omega) h2.2.2 (by omega)) fun v4 h4 => ?_
 refine Tot.bd (pickP 19 h4 (by omega) (by omega)) fun v5 h5 => ?_
 simp only [s_AggAdd_e,bd_s];refine Tot.bd (pickP 2 h5.2.2 (by omega) (by omega)) fun v7 h7 => ?_
 refine Tot.bd (P:=fun v=>Ok (B+17) v.1) ?_ fun v9 h9 => ?_
 ·refine Tot.cnd (fun _ => ?_) (fun _=>Tot.sm (h7.2.2.mono (by omega)));exact Tot.bd (pickP 3 h7.2.2 (by omega) (by omega)) fun v h=>Tot.sm (h.2.2.mono (by omega))
 refine Tot.bd (pickP 5 h9 (by omega) (by omega)) fun v10 h10 => ?_
 refine Tot.bd (P:=fun v=>Ok (B+19) v.1) ?_ fun v12 h12 => ?_
 ·refine Tot.cnd (fun _ => ?_) (fun _=>Tot.sm (h10.2.2.mono (by omega)));exact Tot.bd (pickP 3 h10.2.2 (by omega) (by omega)) fun v h=>Tot.sm (h.2.2.mono (by omega))
 refine Tot.bd (pickP a h12 (by omega) ha) fun v13 h13 => ?_
 refine Tot.cnd (fun _=>Tot.sm (h13.2.2.mono (by omega))) (fun _ => ?_);refine Tot.bd (pickP 5 h13.2.2 (by omega) (by omega)) fun v14 h14 => ?_
 refine Tot.bd (P:=fun v=>Ok (B+40) v.1) ?_ fun v h=>Tot.sm h
 refine Tot.cnd (fun _ => ?_) (fun _=>Tot.cnd (fun _ => ?_) (fun _=>Tot.cnd (fun _ => ?_) (fun _=>Tot.cnd (fun _ => ?_) (fun _ => ?_))))
 ·refine Tot.bd (pickP 2 h14.2.2 (by omega) (by omega)) fun v h => ?_
  exact Tot.bd (Tot.ixT h.1 (by simpa using h.2.1)) fun w _=>Tot.sm (h.2.2.mono (by omega))
 ·exact Tot.bd (l20Win_t 1 (by omega) h14.2.2 (by omega)) fun v h=>Tot.sm (h.mono (by omega))
 ·refine Tot.bd (pickP 5 h14.2.2 (by omega) (by omega)) fun v h => ?_
  exact Tot.bd (Tot.ixT h.1 (by simpa using h.2.1)) fun w _=>Tot.sm (h.2.2.mono (by omega))
 ·exact Tot.bd (pickP 5 h14.2.2 (by omega) (by omega)) fun v h=>Tot.sm (h.2.2.mono (by omega))
 ·exact Tot.bd (l20Agg_t 1 (by omega) h14.2.2 (by omega)) fun v h=>Tot.sm (h.mono (by omega))
theorem l20Late_t {r:l20Rd} {B:Int} (a:Int) (ha:1≤a) (h:Ok B r) (hB:B≤50000):Tot (fun v=>Ok (B+40) v.2) (s_l20Late (r,a)):=by
 simp only [s_l20Late];refine Tot.bd (l20Rec_t h (by omega)) fun v1 h1=>Tot.gd (by decide) (Tot.gd (by decide) ?_)
 refine Tot.bd (pickP a h1.2 (by omega) ha) fun v2 h2 => ?_
 refine Tot.bd (P:=fun v=>Ok (B+40) v.1) ?_ fun v h=>Tot.sm h
 refine Tot.cnd (fun _ => ?_) (fun _=>Tot.sm (h2.2.2.mono (by omega)));refine Tot.bd (pickP 2 h2.2.2 (by omega) (by omega)) fun v3 h3 => ?_
 refine Tot.cnd (fun _ => ?_) (fun _ => ?_)
 ·exact Tot.bd (l20Item_t 2 (by omega) h3.2.2 (by omega)) fun v h=>Tot.sm (h.mono (by omega))
 ·exact Tot.bd (l20Win_t 2 (by omega) h3.2.2 (by omega)) fun v h=>Tot.sm (h.mono (by omega))
theorem smT_set {t:TskTask} (h:smT t) {n:Nat} (hn:n<t.1.length) (c:TskIn) (hc:c.1.length≤1000000):smT (t.1.take n++c::t.1.drop (n+1),t.2):=by
 obtain ⟨h1,h2,h3,h4,h5⟩:=h;refine ⟨h1,h2,h3,?_,?_⟩
 ·show (t.1.take n++c::t.1.drop (n+1)).length≤_;rw [upd_len _ _ _ hn];exact h4
 ·intro d hd;rw [upd_set _ hn] at hd;rcases List.mem_or_eq_of_mem_set hd with hd|rfl
  ·exact h5 d hd
  ·exact hc
theorem l21Task_t {r:l20Rd} (a:Int) (ha:1≤a) (h:Ok 0 r):Tot (fun v=>(smT v.2.1∧1≤v.2.1.1.length)∧Ok 10000 v.2.2) (s_l21Task (r,a)):=by
 simp only [s_l21Task];refine Tot.bd (l21Flow_t h (by omega)) fun v1 h1 => ?_
 obtain ⟨hF,_,ho⟩:=h1;have hfd:=hF.fd.t;refine Tot.bd (pickP _ ho (by omega) (show (1:Int)≤(v1.1.2.2.2.1.length:Int) by omega)) fun v2 h2 => ?_
 refine Tot.bd (Tot.ixT h2.1 h2.2.1) fun v3 h3 => ?_
 have hp:=(hF.ok.tsk v3 h3).1;have hsm:=smT_of hp;have hs3:=pTsk_sm hp;have hin:1≤v3.1.length:=by
  have:=((pTsk_iff _ _).1 hp).il;have hj:=(job_S (pOp_job ((pTsk_iff _ _).1 hp).op)).1;omega
 simp only [s_l8Copy_e _ hsm,bd_s];refine Tot.bd (pickP a h2.2.2 (by omega) ha) fun v5 h5 => ?_
 refine Tot.cnd (fun _=>Tot.sm ⟨⟨hsm,hin⟩,h5.2.2.mono (by omega)⟩) fun _ => ?_
 refine Tot.bd (pickP _ h5.2.2 (by omega) (show (1:Int)≤(v3.1.length:Int) by omega)) fun v6 h6 => ?_
 refine Tot.bd (pickP 8 h6.2.2 (by omega) (by omega)) fun v7 h7 => ?_
 have hn6:v6.1.toNat<v3.1.length:=by have:v6.1<(v3.1.length:Int):=h6.2.1;have:=h6.1;omega
 have hx6:ix v3.1 v6.1=some v3.1[v6.1.toNat]:=ix_i h6.1 h6.2.1;have hq6:=hs3.2.2.2.2 _ (List.getElem_mem hn6);have hul:∀ c:TskIn,(v3.1.take v6.1.toNat++c::v3.1.drop (v6.1.toNat+1)).length=v3.1.length:=fun c=>upd_len _ _ _ hn6
 refine Tot.cnd (fun _=>Tot.bd (l20AnyJob_t 1 (by omega) h7.2.2 (by omega)) fun v8 h8=>Tot.sm ⟨⟨hsm,hin⟩,h8.mono (by omega)⟩) fun _ => ?_
 refine Tot.bd (P:=fun v=>(smT v.2.2.2.2∧1≤v.2.2.2.2.1.length)∧Ok 10000 v.1) ?_ fun v h=>Tot.sm h
 refine Tot.cnd (fun _ => ?_) (fun _=>Tot.cnd (fun _ => ?_) (fun _=>Tot.cnd (fun _ => ?_) (fun _=>Tot.cnd (fun _ => ?_) (fun _=>Tot.cnd (fun _ => ?_) (fun _=>Tot.cnd (fun _ => ?_) (fun _ => ?_))))))
 ·refine Tot.bd (P:=fun v=>v.1.2.length≤v3.2.1.2.length+1∧Ok (0+6000+1+1+1+1+20) v.2) (l21BadOp_t v3.2.1 (by omega) h7.2.2 (by omega)) fun v9 h9=>Tot.sm ⟨⟨⟨by have:=h9.1;show v9.1.2.length≤_;omega,hsm.2.1,hsm.2.2.1,hsm.2.2.2.1,hsm.2.2.2.2⟩,hin⟩,h9.2.mono (by omega)⟩
 ·refine Tot.bd (pickP 3 h7.2.2 (by omega) (by omega)) fun v10 h10 => ?_
  refine Tot.bd (Tot.ixT h10.1 (by simpa using h10.2.1)) fun v11 _ => ?_
  simp only [hx6,bd_s];exact Tot.sm ⟨⟨smT_set hsm hn6 _ (by show v3.1[v6.1.toNat].1.length≤_;omega),by simp only [hul];exact hin⟩,h10.2.2.mono (by omega)⟩
 ·simp only [hx6,bd_s];refine Tot.bd (l20Item_t 2 (by omega) h7.2.2 (by omega)) fun v14 h14 => ?_
  refine Tot.gd (by simp only [List.length_singleton];omega) (Tot.gd trivial (Tot.sm ⟨⟨smT_set hsm hn6 _ (by show (v3.1[v6.1.toNat].1++[v14.1]).length≤_;rw [List.length_append,List.length_singleton];omega),by simp only [hul];exact hin⟩,h14.mono (by omega)⟩))
 ·refine Tot.bd (P:=fun v=>(smT v.2.2.2.2∧1≤v.2.2.2.2.1.length)∧Ok 10000 v.1) ?_ fun v h=>Tot.sm h
  refine Tot.iter (fun s:l20Rd×JobJob×TskTask×FloFlow×TskTask×Int=>(smT s.2.2.2.2.1∧s.2.2.2.2.1.1.length=v3.1.length)∧(0≤s.2.2.2.2.2∧s.2.2.2.2.2≤v3.1.length)∧Ok 10000 s.1) (fun s=>((v3.1.length:Int)-s.2.2.2.2.2).toNat) (fun s hs => ?_) ⟨⟨hsm,rfl⟩,⟨by simp,by simp⟩,h7.2.2.mono (by omega)⟩;obtain ⟨rd,z1,z2,f,t,i⟩:=s;obtain ⟨⟨hs1,hs2⟩,⟨i0,i1⟩,ho⟩:=hs;simp only at hs1 hs2 i0 i1 ho;refine Tot.cnd (fun hc => ?_) (fun hc=>Tot.sm ⟨⟨hs1,by show 1≤t.1.length;omega⟩,ho⟩);have hc:i<(t.1.length:Int):=by simpa using hc
  have hn:i.toNat<t.1.length:=by omega
  have hx:ix t.1 i=some t.1[i.toNat]:=ix_i i0 hc;have hw:w6 (i+1)=i+1:=w6_id (by omega) (by omega);simp only [hx,bd_s,hw];refine Tot.sm ⟨⟨⟨smT_set hs1 hn _ (show t.1[i.toNat].1.length≤_ from hs1.2.2.2.2 _ (List.getElem_mem hn)),by simp only [upd_len _ _ _ hn];exact hs2⟩,⟨by simp only;omega,by simp only;omega⟩,ho⟩,?_⟩;show ((v3.1.length:Int)-(i+1)).toNat<((v3.1.length:Int)-i).toNat;omega
 ·refine Tot.bd (pickP 3 h7.2.2 (by omega) (by omega)) fun v18 h18 => ?_
  refine Tot.bd (Tot.ixT h18.1 (by simpa using h18.2.1)) fun v19 _ => ?_
  exact Tot.sm ⟨⟨hsm,hin⟩,h18.2.2.mono (by omega)⟩
 ·refine Tot.bd (l20Pane_t 2 (by omega) h7.2.2 (by omega)) fun v20 h20 => ?_
  refine Tot.gd (by simp only [List.length_singleton];omega) (Tot.sm ⟨⟨⟨hsm.1,by simp only [List.length_append,List.length_singleton];omega,hsm.2.2.1,hsm.2.2.2.1,hsm.2.2.2.2⟩,hin⟩,h20.mono (by omega)⟩)
 ·refine Tot.bd (pickP 2 h7.2.2 (by omega) (by omega)) fun v21 h21 => ?_
  refine Tot.bd (l20Late_t 2 (by omega) h21.2.2 (by omega)) fun v22 h22 => ?_
  refine Tot.gd (by simp only [List.length_singleton];omega) (Tot.sm ⟨⟨⟨hsm.1,hsm.2.1,by simp only [List.length_append,List.length_singleton];omega,hsm.2.2.2.1,hsm.2.2.2.2⟩,hin⟩,h22.mono (by omega)⟩)
theorem DrawTskPut_t (l:List Int) (hb:∀ x,x∈l→0≤x∧x≤255):Tot (fun v=>(smT v.2.1∧1≤v.2.1.1.length)∧0≤v.2.2.1∧v.2.2.1<4) (s_DrawTskPut l):=by
 simp only [s_DrawTskPut];refine Tot.bd (l20Open_t l hb) fun v1 h1 => ?_
 refine Tot.bd (l21Task_t 16 (by omega) h1) fun v2 h2 => ?_
 refine Tot.bd (pickP 4 h2.2 (by omega) (by omega)) fun v3 h3 => ?_
 refine Tot.bd (l20Item_t 9 (by omega) h3.2.2 (by omega)) fun v4 h4 => ?_
 exact Tot.sm ⟨h2.1,h3.1,h3.2.1⟩
theorem i_OpState_copied_e (s:OpState) (h:s.2.length≤1000000):i_OpState_copied s=some s:=by
 have c1:g_Clone_OpRow s.2=some s.2:=clone_t (by omega);simp only [i_OpState_copied,c1,bd_s]
theorem i_TskTxn_copied_e (x:TskTxn) (h1:x.2.1.length≤1000000) (h2:x.2.2.length≤1000000):i_TskTxn_copied x=some x:=by
 have c1:g_Clone_PanPane x.2.1=some x.2.1:=clone_t (by omega);have c2:g_Clone_LatPair x.2.2=some x.2.2:=clone_t (by omega);simp only [i_TskTxn_copied,c1,c2,bd_s]
theorem i_TskTask_copied_e (t:TskTask) (h:smT t):i_TskTask_copied t=some t:=by
 obtain ⟨h1,h2,h3,h4,h5⟩:=h;simp only [i_TskTask_copied,i_OpState_copied_e _ h1,i_TskTxn_copied_e _ h2 h3,bd_s];rw [fold_i (A:=TskTask×(TskTask×Int)) (B:=TskTask×TskTask) t.1 (fun (o:List TskIn) c=>o++[c]) (fun i o=>o.length≤i) (fun o i=>(tskZ,(o,t.2),i)) (fun o=>(tskZ,(o,t.2))) [] (by simp) (fun o=>by simp) (fun o i hi hI=>by
  refine ⟨by simp;omega,?_⟩;have:=h5 _ (List.getElem_mem hi);have c1:g_Clone_ItmItem t.1[i].1=some t.1[i].1:=clone_t (by omega);have g2:(o.length+1)*40≤140737488355328:=by omega
  simp only [lt_d hi,ix_t hi,w6_s hi (show t.1.length<1000000000 by omega),bd_s,cnd_t,c1,gd_t g2])]
 rw [fold_app];rfl
theorem smT_sm {t:TskTask} (h:smT t):smTask t:=by
 obtain ⟨h1,h2,h3,h4,h5⟩:=h;exact ⟨by omega,fun c hc=>by have:=h5 c hc;omega,by omega,by show _<_;omega,by show _<_;omega⟩
def pTRoom (j:JobJob) (t:TskTask) (i:Int):Bool :=
 pTsk j t&&inR i 0 ((t.1.length:Int)-1)&&decide ((((t.1[i.toNat]?).getD ([],0,false)).1.length:Int)<j.2.2.2.2.2.2.2.2.2)
def pTskPut (j:JobJob) (t:TskTask) (i:Int) (x:ItmItem):TskTask×Bool :=
 if pTsk j t&&inR i 0 ((t.1.length:Int)-1)&&itmOk x then (if pTRoom j t i then (putQ i.toNat x t,true) else (t,false)) else (tskZ,false)
theorem s_TskRoom_e (j:JobJob) (t:TskTask) (i:Int) (h:smT t):s_TskRoom (j,t,i)=some (pTRoom j t i):=by
 have hw:w6 ((t.1.length:Int)-1)=(t.1.length:Int)-1:=w6_id (by omega) (by have:=h.2.2.2.1;omega);simp only [s_TskRoom,s_TskOk_e,s_l1In_e,hw,bd_s,pTRoom];cases pTsk j t
 ·rfl
 cases hi:inR i 0 ((t.1.length:Int)-1)
 ·rfl
 have hi:=inR_iff.1 hi;have hn:i.toNat<t.1.length:=by omega
 simp only [cnd_t,ix_n (show i=((i.toNat:Nat):Int) by omega) hn,bd_s,List.getElem?_eq_getElem hn,Option.getD_some,Bool.true_and]
theorem i_TskRoom_e (j:JobJob) (t:TskTask) (i:Int) (h:smT t):i_TskRoom (j,t,i)=some (pTRoom j t i):=by
 have hw:w6 ((t.1.length:Int)-1)=(t.1.length:Int)-1:=w6_id (by omega) (by have:=h.2.2.2.1;omega);simp only [i_TskRoom,i_TskOk_e _ _ (show t.2.1.2.length<1000000000 by have:=h.1;omega),i_TskTask_has,i_TskTask_room,i_in_e,hw,bd_s,pTRoom];cases pTsk j t
 ·rfl
 cases hi:inR i 0 ((t.1.length:Int)-1)
 ·rfl
 have hi:=inR_iff.1 hi;have hn:i.toNat<t.1.length:=by omega
 simp only [cnd_t,ix_n (show i=((i.toNat:Nat):Int) by omega) hn,bd_s,List.getElem?_eq_getElem hn,Option.getD_some,Bool.true_and]
theorem putQ_set (t:TskTask) (n:Nat) (x:ItmItem) (hn:n<t.1.length):putQ n x t=(t.1.set n (t.1[n].1++[x],t.1[n].2),t.2):=by
 simp only [putQ,mod_set _ _ _ hn]
theorem s_TskPut_e (j:JobJob) (t:TskTask) (i:Int) (x:ItmItem) (h:smT t):s_TskPut_v (j,t,i,x)=some (pTskPut j t i x):=by
 have hw:w6 ((t.1.length:Int)-1)=(t.1.length:Int)-1:=w6_id (by omega) (by have:=h.2.2.2.1;omega);simp only [s_TskPut_v,s_TskOk_e,s_l1In_e,s_ItmOk_e,hw,bd_s,pTskPut];cases hp:pTsk j t
 ·rfl
 cases hi:inR i 0 ((t.1.length:Int)-1)
 ·rfl
 cases hx:itmOk x
 ·rfl
 have hq:=(pTsk_sm hp).2.2.2.2;have hR:=((pTsk_iff _ _).1 hp).ins;have hi':=inR_iff.1 hi;have hn:i.toNat<t.1.length:=by omega
 have he:i=((i.toNat:Nat):Int):=by omega
 have hq1:=hq _ (List.getElem_mem hn);have hR1:=(hR _ (List.getElem_mem hn)).1;simp only [Bool.not_true,Bool.and_self,cnd_f,s_l8Copy_e _ h,ix_n he hn,bd_s,if_true,pTRoom,hp,hi,List.getElem?_eq_getElem hn,Option.getD_some,Bool.true_and,upd_self hn];have g1:(t.1[i.toNat].1.length+[x].length)*40≤140737488355328:=by simp only [List.length_singleton];omega
 rcases Bool.eq_false_or_eq_true ((t.1[i.toNat].1.length:Int)==j.2.2.2.2.2.2.2.2.2) with b|b
 ·have b2:decide ((t.1[i.toNat].1.length:Int)<j.2.2.2.2.2.2.2.2.2)=false:=by
   simp only [beq_iff_eq] at b;simp only [decide_eq_false_iff_not];omega
  simp only [b,b2,cnd_t,Bool.false_eq_true,if_false]
 ·have b2:decide ((t.1[i.toNat].1.length:Int)<j.2.2.2.2.2.2.2.2.2)=true:=by
   simp only [beq_eq_false_iff_ne,ne_eq] at b;simp only [decide_eq_true_eq];omega
  simp only [b,b2,cnd_f,if_true,gd_t g1,gd_rf,gd_T,upd_set _ hn,putQ_set _ _ _ hn]
theorem i_TskPut_e (j:JobJob) (t:TskTask) (i:Int) (x:ItmItem) (h:smT t):i_TskPut_v (j,t,i,x)=some (pTskPut j t i x):=by
 have hw:w6 ((t.1.length:Int)-1)=(t.1.length:Int)-1:=w6_id (by omega) (by have:=h.2.2.2.1;omega);simp only [i_TskPut_v,i_TskOk_e _ _ (show t.2.1.2.length<1000000000 by have:=h.1;omega),i_TskTask_has,i_TskTask_room,i_TskTask_put,i_in_e,i_ItmOk_e,hw,bd_s,pTskPut];cases hp:pTsk j t
 ·rfl
 cases hx:itmOk x
 ·cases inR i 0 ((t.1.length:Int)-1)<;>rfl
 cases hi:inR i 0 ((t.1.length:Int)-1)
 ·rfl
 have hq:=(pTsk_sm hp).2.2.2.2;have hi':=inR_iff.1 hi;have hn:i.toNat<t.1.length:=by omega
 have he:i=((i.toNat:Nat):Int):=by omega
 have hq1:=hq _ (List.getElem_mem hn);simp only [Bool.not_true,Bool.and_self,cnd_f,i_TskTask_copied_e _ h,ix_n he hn,bd_s,if_true,pTRoom,hp,hi,List.getElem?_eq_getElem hn,Option.getD_some,Bool.true_and];have g1:(t.1[i.toNat].1.length+[x].length)*40≤140737488355328:=by simp only [List.length_singleton];omega
 rcases Bool.eq_false_or_eq_true (decide ((t.1[i.toNat].1.length:Int)<j.2.2.2.2.2.2.2.2.2)) with b|b
 ·simp only [b,Bool.not_true,cnd_f,if_true,gd_t g1,gd_rf,gd_T,upd_set _ hn,putQ_set _ _ _ hn,bd_s]
 ·simp only [b,Bool.not_false,cnd_t,Bool.false_eq_true,if_false]
theorem putQ_ok {j:JobJob} {t:TskTask} (h:TskP j t) {n:Nat} (hn:n<t.1.length) {x:ItmItem} (hx:itmOk x=true) (hr:(t.1[n].1.length:Int)<j.2.2.2.2.2.2.2.2.2):TskP j (putQ n x t):=by
 refine ⟨h.op,by simp only [putQ,List.length_modify];exact h.il,h.wall,h.pn,h.pp,h.pl,?_,?_,?_⟩
 ·intro c hc';rw [putQ_set _ _ _ hn] at hc';rcases List.mem_or_eq_of_mem_set hc' with h1|rfl
  ·exact h.ins c h1
  ·have hc:=h.ins _ (List.getElem_mem hn);refine ⟨by simp only [List.length_append,List.length_singleton];omega,hc.2.1,?_⟩;intro y hy;rcases List.mem_append.1 hy with h1|h1
   ·exact hc.2.2 y h1
   ·rw [List.mem_singleton.1 h1];exact hx
 ·have:tHeld (putQ n x t)=tHeld t:=by
   rw [held_map,held_map];simp only [putQ];rw [map_mod (fun c:TskIn=>c.2.2) (fun c=>(c.1++[x],c.2)) (fun _=>rfl)]
  rw [this];simp only [putQ,List.length_modify];exact h.held
 ·have:tLow (putQ n x t)=tLow t:=by
   rw [low_map,low_map];simp only [putQ];rw [map_mod (fun c:TskIn=>c.2.1) (fun c=>(c.1++[x],c.2)) (fun _=>rfl)]
  rw [this];exact h.low
theorem tskZ_sm:smT tskZ:=⟨by simp,by simp,by simp,by simp,fun c hc=>by simp at hc⟩
theorem FnTskPut_law (l:List Int) (hb:∀ x,x∈l→0≤x∧x≤255):l_FnTskPut l=some true:=by
 obtain ⟨⟨j,t,i,x⟩,hd,⟨hs,hl⟩,hi0,hi4⟩:=DrawTskPut_t l hb;simp only at hs hl hi0 hi4;simp only [l_FnTskPut];rcases Bool.eq_false_or_eq_true (decide ((l.length:Int)>1048576)) with b|b
 ·simp only [b,cnd_t]
 have hz:l_frTask (tskZ,tskZ)=some true:=frTask_s _ (smT_sm tskZ_sm);have htt:l_frTask (t,t)=some true:=frTask_s _ (smT_sm hs);simp only [b,cnd_f,hd,bd_s,i_TskPut_e j t i x hs,s_TskPut_e j t i x hs,i_TskRoom_e j t i hs,s_TskRoom_e j t i hs,s_TskOk_e,s_ItmOk_e,bne_self_eq_false];have hlen:=hs.2.2.2.1;cases hp:pTsk j t
 ·have e:pTskPut j t i x=(tskZ,false):=by simp [pTskPut,hp]
  simp only [hp,e,hz,bd_s,Bool.not_true,Bool.not_false,cnd_f,cnd_t,frOk_z,i_TskRoom_e j t i hs]
 cases hi:inR i 0 ((t.1.length:Int)-1)
 ·have e:pTskPut j t i x=(tskZ,false):=by simp [pTskPut,hi]
  have hge:decide (i≥(t.1.length:Int))=true:=by
   have:¬ (inR i 0 ((t.1.length:Int)-1)=true):=by simp [hi]
   rw [inR_iff] at this;simp only [decide_eq_true_eq];omega
  have hlt:decide (i<(0:Int))=false:=by simp only [decide_eq_false_iff_not];omega
  simp only [hp,e,hz,bd_s,Bool.not_true,Bool.not_false,cnd_f,cnd_t,frOk_z,hlt,hge]
 have hi':=inR_iff.1 hi;have hge:decide (i≥(t.1.length:Int))=false:=by simp only [decide_eq_false_iff_not];omega
 have hlt:decide (i<(0:Int))=false:=by simp only [decide_eq_false_iff_not];omega
 cases hx:itmOk x
 ·have e:pTskPut j t i x=(tskZ,false):=by simp [pTskPut,hx]
  simp only [hp,hx,e,hz,bd_s,Bool.not_true,Bool.not_false,cnd_f,cnd_t,frOk_z,hlt,hge]
 cases hr:pTRoom j t i
 ·have e:pTskPut j t i x=(t,false):=by simp [pTskPut,hp,hi,hx,hr]
  simp only [hp,hx,hr,i_TskRoom_e j t i hs,e,htt,bd_s,Bool.not_true,Bool.not_false,cnd_f,cnd_t,hlt,hge]
 have e:pTskPut j t i x=(putQ i.toNat x t,true):=by simp [pTskPut,hp,hi,hx,hr]
 have hn:i.toNat<t.1.length:=by omega
 have he:i=((i.toNat:Nat):Int):=by omega
 have hP:=(pTsk_iff _ _).1 hp;have hr':(t.1[i.toNat].1.length:Int)<j.2.2.2.2.2.2.2.2.2:=by
  simpa [pTRoom,hp,hi,List.getElem?_eq_getElem hn] using hr
 have hP2:=putQ_ok hP hn hx hr';have hp2:=(pTsk_iff _ _).2 hP2;have hs2:=smT_of hp2;have hyy:l_frTask (putQ i.toNat x t,putQ i.toNat x t)=some true:=frTask_s _ (smT_sm hs2);have hq:=(pTsk_sm hp).2.2.2.2 _ (List.getElem_mem hn);have hn2:i.toNat<(putQ i.toNat x t).1.length:=by simp only [putQ,List.length_modify];exact hn
 have hg:(putQ i.toNat x t).1[i.toNat]=(t.1[i.toNat].1++[x],t.1[i.toNat].2):=by
  simp [putQ,List.getElem_modify]
 have hw:w6 ((t.1[i.toNat].1.length:Int)+1)=(t.1[i.toNat].1.length:Int)+1:=w6_id (by omega) (by omega);have hop0:l_frOp (t.2.1,t.2.1)=some true:=frOp_s _ (by have:=hs.1;omega);have hop:l_frOp ((putQ i.toNat x t).2.1,t.2.1)=some true:=hop0;have htx0:l_frTxn (t.2.2.2,t.2.2.2)=some true:=frTxn_s _ ⟨by have:=hs.2.1;omega,by have:=hs.2.2.1;omega⟩;have htx:l_frTxn ((putQ i.toNat x t).2.2.2,t.2.2.2)=some true:=htx0;have hok:=i_TskOk_e j (putQ i.toNat x t) (by have:=hs2.1;omega);have hfi:l_frItems (t.1[i.toNat].1,t.1[i.toNat].1)=some true:=frItems_s _ (by omega);have hlen2:(((t.1[i.toNat].1++[x]).length:Nat):Int)=(t.1[i.toNat].1.length:Int)+1:=by simp
 have g1:(0:Int)≤(t.1[i.toNat].1.length:Int):=by omega
 have g2:0≤((t.1[i.toNat].1.length:Int)).toNat∧((t.1[i.toNat].1.length:Int)).toNat≤(t.1[i.toNat].1++[x]).length:=by simp
 have hlast:ix (t.1[i.toNat].1++[x]) (t.1[i.toNat].1.length:Int)=some x:=ix_mid t.1[i.toNat].1 [] x;have htk:((t.1[i.toNat].1++[x]).drop 0).take (((t.1[i.toNat].1.length:Int)).toNat-0)=t.1[i.toNat].1:=by simp
 simp only [e,hyy,bd_s,Bool.not_true,cnd_f,cnd_t,hlt,hge,ix_n he hn,ix_n he hn2,hg,hw,hlen2,beq_self_eq_true,gd_t g1,gd_t g2,htk,hfi,hlast,Bool.and_true,Bool.and_self,hop,htx,hok,hp2,hp,hx,hr,i_TskRoom_e j t i hs]
end Go.Proofs.YteecakkojdhmaaaGreatA.AS
