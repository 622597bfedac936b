/- A part of the proof that FnFloRecs holds: an abstract machine, typed evaluation, and that both are sound. -/
import Derived.Test.YteecakkojdhmaaaGreatAs1
set_option linter.unusedVariables false
set_option linter.unusedSimpArgs false
namespace Go.Proofs.YteecakkojdhmaaaGreatA.AS
def RV.one1:RV→PV
 | .r (.one p)=>p
 | _=>.un
def ImpR (x y:R1):Prop:=∀ (w:World) (M:Nat→Prop) (X:Ctx) (u:Value),R1R w M X x u []→R1R w M X y u []
theorem ImpR.refl (x:R1):ImpR x x:=fun _ _ _ _ h=>h
inductive Mix (σ:St):List PV→List PV→List Nat→List Nat→Prop
 | nil:Mix σ [] [] [] []
 | tk {p q:PV} {ps qs:List PV} {i is ln:List Nat} (h:takeP σ p=some (q,i)) (t:Mix σ ps qs is ln):Mix σ (p::ps) (q::qs) (i++is) ln
 | vw {p q:PV} {ps qs:List PV} {l is ln:List Nat} (h:vc σ p=some (q,l)) (hq:q.sh=q) (t:Mix σ ps qs is ln):Mix σ (p::ps) (q::qs) is (l++ln)
 | ig {p:PV} {ps qs:List PV} {is ln:List Nat} (t:Mix σ ps qs is ln):Mix σ (p::ps) (.un::qs) is ln
def MixR (σ:St):R1→R1→List Nat→List Nat→Prop
 | .one p,.one q,i,l=>Mix σ [p] [q] i l
 | .agg ps,.agg qs,i,l=>Mix σ ps qs i l
 | _,_,_,_=>False
def callPrep (σ:St):List RV→List Arg→(List Nat→List Nat→List (Nat×Slot)→Prop)→Prop
 | [],[],K=>K [] [] []
 | ix::is,.v x::as,K=>(∀ p∈x.cs,NoRef p)∧match ix with
  | .r r=>∃ x',(∀ p∈x'.cs,NoRef p)∧ImpR x' x∧vwR σ r x' fun l=>callPrep σ is as fun tk ln wr=>K tk (l++ln) wr
  | _=>False
 | ix::is,.o x::as,K=>(∀ p∈x.cs,NoRef p)∧match ix with
  | .r r=>∃ i l,MixR σ r x i l∧callPrep σ is as fun tk ln wr=>K (i++tk) (l++ln) wr
  | _=>False
 | ix::is,.w c c'::as,K=>(∀ p∈c,NoRef p)∧match ix.one1 with
  | .ptr id full e j=>match σ.slot id with
   | .live B=>B.l.length=full∧∃ ce,B.l[e]? = some ce∧(ce.drop j).take c.length=c∧0<c.length∧j+c.length≤ce.length ∧
     callPrep σ is as fun tk ln wr=>K tk ln ((id,.live { B with l:=B.l.set e (splice ce j c') })::wr)
   | _=>False
  | _=>False
 | _,_,_=>False
structure WI where
 id:Nat
 B:Blk
 e:Nat
 j:Nat
 z:Nat×Nat
 ce:List PV
 c:List PV
 c':List PV
 f1:List Nat
 f2:List Nat
 f3:List Nat
def WI.pos (x:WI):Nat:=x.e*x.B.k+x.j
def WI.ws (x:WI):Nat×Nat×Nat:=(x.z.1,x.z.2+x.pos,x.c.length)
def WI.B' (x:WI):Blk:={ x.B with l:=x.B.l.set x.e (splice x.ce x.j x.c') }
def WI.wr (x:WI):Nat×Slot:=(x.id,.live x.B')
structure WI.ok (w:World) (M:Nat→Prop) (X:Ctx) (F:Nat→List Nat) (x:WI):Prop where
 live:X.H x.id=.live x.B
 ce:x.B.l[x.e]? = some x.ce
 A:X.A x.id=some x.z
 F:F x.id=x.f1++x.f2++x.f3
 seg:(x.ce.drop x.j).take x.c.length=x.c
 pos:0<x.c.length
 le:x.j+x.c.length≤x.ce.length
 k:∀ c∈x.B.l,c.length=x.B.k
 ex:∃ xs,CellsAt w x.z xs∧x.B.l.flatten.length=xs.length∧RCs w M X (x.B.l.flatten.take x.pos) (xs.take x.pos) x.f1∧RCs w M X x.c ((xs.drop x.pos).take x.c.length) x.f2∧RCs w M X (x.B.l.flatten.drop (x.pos+x.c.length)) (xs.drop (x.pos+x.c.length)) x.f3 ∧
  ((x.B.kd=0∧∃ e,w.ownsRow 0 e x.B.k (.slice ((X.A x.id).map baseOf) x.B.l.length (X.C x.id)) x.B.l.length xs)∨(x.B.kd≠0∧x.B.l.length=1))
def wArgs:List Arg→List (List PV×List PV)
 | []=>[]
 | .w c c'::r=>(c,c')::wArgs r
 | .v _::r=>wArgs r
 | .o _::r=>wArgs r
section
variable {P:Program} {G:Fr} {X X':Ctx} {F:Nat→List Nat} {σ:St} {a:Act} {acts:List Act} {w w':World} {M M' N:Nat→Prop} {τ:Nat→Value}
theorem takeP_kd {p q:PV} {i:List Nat} (t1:takeP σ p=some (q,i)):∀ j∈i,∃ B,σ.slot j=.live B∧B.kd=0:=by
 intro j hj;unfold takeP at t1;split at t1
 ·split at t1
  ·rename_i B hB;split at t1
   ·rename_i hc;simp only [osi,Prod.mk.injEq] at t1;obtain ⟨_,rfl⟩:=t1;simp at hj;subst hj;exact ⟨B,hB,hc.2.2.2⟩
   ·cases t1
  ·cases t1
 ·cases t1
 ·simp only [osi,Prod.mk.injEq] at t1;obtain ⟨_,rfl⟩:=t1;cases hj
theorem RCs.uncons {p:PV} {ps:List PV} {us:List Value} (h:RCs w M X (p::ps) us []):∃ u us',us=u::us'∧RC w M X p u []∧RCs w M X ps us' []:=by
 cases us with
 | nil=>have:=h.1;simp at this
 | cons u us =>
  refine ⟨u,us,rfl,h.get_nofp 0 p u rfl rfl,RCs.of_nofp (by simpa using h.1) fun j q v hq hv=>h.get_nofp (j+1) q v (by simpa using hq) (by simpa using hv)⟩
theorem SimW.mix_ok (h:SimW G X F σ acts w) (hτ:X.τ=τ) {ps qs:List PV} {ids ln:List Nat} (hm:Mix σ ps qs ids ln):∀ {us:List Value},RCs w (Mut X F) X ps us []→(∀ q∈qs,NoRef q)→ids.Nodup →
  ∃ f',(∀ N:Nat→Prop,(∀ g,g<w.heap.size→¬ Mut X F g→¬ N g)→(∀ i∈ln,∀ g∈Own X F i,¬ N g)→RCs w N (X0 τ N) qs us f')∧f'.Nodup∧(∀ i∈ids,∃ B,X.H i=.live B∧B.kd=0)∧∀ g∈f',∃ i∈ids,g∈Own X F i:=by
 induction hm with
 | nil =>
  intro us hr hn hid;have:us=[]:=List.eq_nil_of_length_eq_zero hr.1.symm;subst this;exact ⟨[],fun _ _ _=>RCs.nil,by simp,by simp,by simp⟩
 | @tk p q ps qs i is ln ht t ih =>
  intro us hr hn hid;obtain ⟨u,us',rfl,hp,hr'⟩:=hr.uncons;have hid2:=List.nodup_append.1 hid;obtain ⟨f1,k1,k2,k3,_,k4⟩:=h.takeP_ok hp ht (hn q (by simp)) (by simp);obtain ⟨f2,m1,m2,m3,m4⟩:=ih hr' (fun q hq=>hn q (by simp [hq])) hid2.2.1;have k5:∀ g∈f1,∃ j∈i,g∈Own X F j:=by
   intro g hg;rcases k4 with ⟨_,rfl⟩|⟨j,rfl,rfl⟩
   ·cases hg
   ·exact ⟨j,by simp,hg⟩
  have k3':∀ j∈i,∃ B,X.H j=.live B∧B.kd=0:=by
   intro j hj;obtain ⟨B,hB,hk⟩:=takeP_kd ht j hj;exact ⟨B,by rw [h.hH];exact hB,hk⟩
  refine ⟨f1++f2,fun N hN hl=>RCs.cons (k1 N (X0 τ N) hτ.symm hN) (m1 N hN hl),List.nodup_append.2 ⟨k2,m2,fun g hg g' hg' e => ?_⟩,fun j hj => ?_,fun g hg => ?_⟩
  ·subst e;obtain ⟨j,hj,a1⟩:=k5 g hg;obtain ⟨j',hj',b1⟩:=m4 g hg';obtain ⟨B,hB⟩:=k3 j hj;obtain ⟨B',hB',_⟩:=m3 j' hj';refine h.dj j j' B B' hB hB' (fun e => ?_) g a1 b1;subst e;exact hid2.2.2 j hj j hj' rfl
  ·rcases lma.1 hj with hj|hj
   ·exact k3' j hj
   ·exact m3 j hj
  ·rcases lma.1 hg with hg|hg
   ·obtain ⟨j,hj,a1⟩:=k5 g hg;exact ⟨j,by simp [hj],a1⟩
   ·obtain ⟨j,hj,a1⟩:=m4 g hg;exact ⟨j,by simp [hj],a1⟩
 | @vw p q ps qs l is ln hv hq t ih =>
  intro us hr hn hid;obtain ⟨u,us',rfl,hp,hr'⟩:=hr.uncons;obtain ⟨f2,m1,m2,m3,m4⟩:=ih hr' (fun q hq=>hn q (by simp [hq])) hid;refine ⟨f2,fun N hN hl => ?_,m2,m3,m4⟩;have k1:=h.vc_ok (N:=N) (τ:=τ) hp hv (hn q (by simp)) hN (by simp) (fun j hj=>hl j (by simp [hj])) hτ;rw [hq] at k1;have:=RCs.cons k1 (m1 N hN fun j hj=>hl j (by simp [hj]));simpa using this
 | @ig p ps qs is ln t ih =>
  intro us hr hn hid;obtain ⟨u,us',rfl,hp,hr'⟩:=hr.uncons;obtain ⟨f2,m1,m2,m3,m4⟩:=ih hr' (fun q hq=>hn q (by simp [hq])) hid;refine ⟨f2,fun N hN hl => ?_,m2,m3,m4⟩;have:=RCs.cons (RC.un (w:=w) (M:=N) (X:=X0 τ N) hp.oneCell) (m1 N hN hl);simpa using this
theorem SimW.mixR_ok (h:SimW G X F σ acts w) (hτ:X.τ=τ) {x y:R1} {u:Value} {ids ln:List Nat} (hr:R1R w (Mut X F) X x u []) (hm:MixR σ x y ids ln) (hn:∀ q∈y.cs,NoRef q) (hid:ids.Nodup) :
  ∃ f',(∀ N:Nat→Prop,(∀ g,g<w.heap.size→¬ Mut X F g→¬ N g)→(∀ i∈ln,∀ g∈Own X F i,¬ N g)→R1R w N (X0 τ N) y u f')∧f'.Nodup∧(∀ i∈ids,∃ B,X.H i=.live B∧B.kd=0)∧∀ g∈f',∃ i∈ids,g∈Own X F i:=by
 cases x with
 | one p =>
  cases y with
  | one q =>
   have hr':RCs w (Mut X F) X [p] [u] []:=by
    have:=RCs.cons (show RC w (Mut X F) X p u [] from hr) (RCs.nil (w:=w) (M:=Mut X F) (X:=X));simpa using this
   obtain ⟨f,k1,k2,k3,k4⟩:=h.mix_ok hτ hm hr' hn hid;refine ⟨f,fun N hN hl => ?_,k2,k3,k4⟩;obtain ⟨_,fps,hf,rfl,hc⟩:=k1 N hN hl;obtain ⟨f0,rfl⟩:=List.length_eq_one_iff.1 hf;have:=hc 0 q u f0 rfl rfl rfl;have e0:([f0]:List (List Nat)).flatten=f0:=by simp
   rw [e0];exact this
  | agg l=>exact hm.elim
 | agg l =>
  cases y with
  | one q=>exact hm.elim
  | agg m =>
   obtain ⟨xs,rfl,hr⟩:=hr;obtain ⟨f,k1,k2,k3,k4⟩:=h.mix_ok hτ hm hr hn hid;exact ⟨f,fun N hN hl=>⟨xs,rfl,k1 N hN hl⟩,k2,k3,k4⟩
theorem SimW.prep_ok (h:SimW G X F σ (a::acts) w) (hτ:X.τ=τ):∀ {us:List Value} {is:List RV} {as:List Arg} {K:List Nat→List Nat→List (Nat×Slot)→Prop},All2 (fun u y=>RVR w (Mut X F) X y u) us is→callPrep σ is as K →
  ∃ tk ln,∃ L:List WI,K tk ln (L.map WI.wr)∧(∀ x∈L,WI.ok w (Mut X F) X F x)∧wArgs as=L.map (fun x=>(x.c,x.c'))∧(∀ i∈tk,tk.Nodup→∃ B,X.H i=.live B∧B.kd=0) ∧
   ∀ N:Nat→Prop,(∀ g,g<w.heap.size→¬ Mut X F g→¬ N g)→(∀ i∈ln,∀ g∈Own X F i,¬ N g)→tk.Nodup→∃ fo,ArgsR w N τ as us fo (L.map (·.f2)) (L.map WI.ws)∧fo.flatten.Nodup∧(∀ g∈fo.flatten,∃ i∈tk,g∈Own X F i)
 | _,_,[],K,.nil,hp=>⟨[],[],[],hp,by simp,rfl,by simp,fun N hN hl hn=>⟨[],.nil,by simp,by simp⟩⟩
 | _,_,_::_,K,.nil,hp=>hp.elim
 | _,_,[],K,.cons _ _,hp=>hp.elim
 | x::ops,ix::is,.v y::as,K,.cons hx ht,hp=>by
  obtain ⟨hn,hp⟩:=hp;have hev:=hx;split at hp
  ·rename_i r;obtain ⟨x',hn',him,hp⟩:=hp;obtain ⟨l,hk,hv⟩:=h.vwR_ok (τ:=τ) hev hp hn' hτ;obtain ⟨tk,ln,L,k1,k2,k3,k4,k5⟩:=h.prep_ok hτ ht hk;refine ⟨tk,l++ln,L,k1,k2,k3,k4,fun N hN hl hnd => ?_⟩;obtain ⟨fo,m1,m2,m3⟩:=k5 N hN (fun i hi=>hl i (by simp [hi])) hnd;exact ⟨fo,.v (him _ _ _ _ (hv N hN fun i hi=>hl i (by simp [hi]))) hn m1,m2,m3⟩
  ·exact hp.elim
 | x::ops,ix::is,.o y::as,K,.cons hx ht,hp=>by
  obtain ⟨hn,hp⟩:=hp;have hev:=hx;split at hp
  ·rename_i r;obtain ⟨i,l,hmx,hp⟩:=hp;obtain ⟨tk,ln,L,k1,k2,k3,k4,k5⟩:=h.prep_ok hτ ht hp;have hgo:=fun hnd=>h.mixR_ok hτ hev hmx hn hnd
   refine ⟨i++tk,l++ln,L,k1,k2,k3,fun j hj hnd => ?_,fun N hN hl hnd => ?_⟩
   ·have hnd2:=List.nodup_append.1 hnd;rcases lma.1 hj with hj|hj
    ·obtain ⟨_,_,_,hlv,_⟩:=hgo hnd2.1;exact hlv j hj
    ·exact k4 j hj hnd2.2.1
   ·have hnd2:=List.nodup_append.1 hnd;obtain ⟨fo,m1,m2,m3⟩:=k5 N hN (fun i hi=>hl i (by simp [hi])) hnd2.2.1;obtain ⟨f,n1,n2,n3,n4⟩:=hgo hnd2.1;refine ⟨f::fo,.o (n1 N hN fun i hi=>hl i (by simp [hi])) hn m1,?_,fun g hg => ?_⟩
    ·rw [List.flatten_cons];refine List.nodup_append.2 ⟨n2,m2,fun g hg g' hg' e => ?_⟩;subst e;obtain ⟨j,hj,e1⟩:=n4 g hg;obtain ⟨j',hj',e2⟩:=m3 g hg';obtain ⟨B,hB,_⟩:=n3 j hj;obtain ⟨B',hB',_⟩:=k4 j' hj' hnd2.2.1;refine h.dj j j' B B' hB hB' (fun e => ?_) g e1 e2;subst e;exact hnd2.2.2 j hj j hj' rfl
    ·rw [List.flatten_cons] at hg;rcases lma.1 hg with hg|hg
     ·obtain ⟨j,hj,e1⟩:=n4 g hg;exact ⟨j,by simp [hj],e1⟩
     ·obtain ⟨j,hj,e1⟩:=m3 g hg;exact ⟨j,by simp [hj],e1⟩
  ·exact hp.elim
 | x::ops,ix::is,.w c c'::as,K,.cons hx ht,hp=>by
  obtain ⟨hn,hp⟩:=hp;split at hp
  ·rename_i id full e j hev0;have hev:RC w (Mut X F) X (.ptr id full e j) x []:=by
    cases ix with
    | r z=>cases z with
     | one p=>simp only [RV.one1] at hev0;subst hev0;exact hx
     | agg l=>simp [RV.one1] at hev0
    | tup l=>simp [RV.one1] at hev0
    | un=>simp [RV.one1] at hev0
   split at hp
   ·rename_i B hB;obtain ⟨hfull,ce,hce,hseg,h0,hle,hp⟩:=hp;obtain ⟨tk,ln,L,k1,k2,k3,k4,k5⟩:=h.prep_ok hτ ht hp;have hid:X.H id=.live B:=by rw [h.hH];exact hB
    obtain ⟨he,z,hz,hv⟩:e<full∧∃ z,X.A id=some z∧x=.pointer (some ((baseOf z).add (e*B.k+j))):=by
     obtain ⟨ad,_,_,h1⟩:=hev.ptr_inv;exact (h1 B hid).2 hfull
    have hb:=h.blk id B hid;obtain ⟨xs,hcs,hat⟩:=hb.cells z hz;obtain ⟨f1,f2,f3,hF,c1,c2,c3⟩:=hcs.parts (e*B.k+j) c.length;have hcek:ce.length=B.k:=hb.1 ce (List.mem_of_getElem? hce);have hsg:(B.l.flatten.drop (e*B.k+j)).take c.length=c:=by
     rw [flatten_seg B.l hb.1 e j c.length ce hce (by omega)];exact hseg
    rw [hsg] at c2;have hrow:(B.kd=0∧∃ e,w.ownsRow 0 e B.k (.slice ((X.A id).map baseOf) B.l.length (X.C id)) B.l.length xs)∨(B.kd≠0∧B.l.length=1):=by
     obtain ⟨_,ys,hys,hr⟩:=hb;rcases hr with ⟨r0,e',hr⟩|⟨r0,y,hy,r1,r2⟩
     ·left;refine ⟨r0,e',?_⟩;have:xs=ys:=by
       have hl:xs.length=ys.length:=by rw [← hcs.1,←hys.1]
       apply List.ext_getElem hl;intro q q1 q2;have a1:=(hat q _ (List.getElem?_eq_getElem q1)).1;have a2:=((cellsAt_of_row hr hz).2 q _ (List.getElem?_eq_getElem q2)).1;rw [a1] at a2;exact Option.some.inj a2
      rw [this];exact hr
     ·exact .inr ⟨r0,r1⟩
    refine ⟨tk,ln,⟨id,B,e,j,z,ce,c,c',f1,f2,f3⟩::L,k1,?_,by simp [wArgs,k3],k4,fun N hN hl hnd => ?_⟩
    ·intro y hy;rcases List.mem_cons.1 hy with rfl|hy
     ·exact ⟨hid,hce,hz,hF,hseg,h0,hle,hb.1,xs,hat,hcs.1,c1,c2,c3,hrow⟩
     ·exact k2 y hy
    ·obtain ⟨fo,m1,m2,m3⟩:=k5 N hN hl hnd;refine ⟨fo,?_,m2,m3⟩;have hx1:xs.length=B.l.length*B.k:=by rw [← hcs.1,flatten_len _ hb.1]
     have hel:e<B.l.length:=(List.getElem?_eq_some_iff.1 hce).1;have hle2:e*B.k+B.k≤B.l.length*B.k:=by rw [← Nat.succ_mul];exact Nat.mul_le_mul_right _ hel
     show ArgsR w N τ _ (x::ops) fo (f2::L.map (·.f2)) ((z.1,z.2+(e*B.k+j),c.length)::L.map WI.ws);have hvv:x=.pointer (some (baseOf (z.1,z.2+(e*B.k+j)))):=by rw [hv,add_baseOf];rfl
     rw [hvv];refine .w (z:=(z.1,z.2+(e*B.k+j))) (vs:=(xs.drop (e*B.k+j)).take c.length) (fun q u hu => ?_) (c2.map_rc fun p u f hp _ hr=>hr.move (hn p hp) (fun _ _=>rfl) (fun _ _ _=>rfl) hN hτ.symm) hn h0 m1;rw [List.getElem?_take] at hu;split at hu
     ·rw [List.getElem?_drop] at hu;have:=hat _ u hu;rw [add_baseOf] at this ⊢;simp only [Nat.add_assoc] at this ⊢;exact this
     ·cases hu
   ·exact hp.elim
  ·exact hp.elim
theorem WI.ok.patch {x:WI} (h:WI.ok w M X F x) {vs':List Value} {f':List Nat} (hl:x.c'.length=x.c.length) (hc:CellsAt w' (x.z.1,x.z.2+x.pos) vs') (hr:RCs w' M' X' x.c' vs' f')
  (hw:∃ c0 ty fz c,w.heap[x.z.1]? = some (.cells c0 ty fz)∧w'.heap[x.z.1]? = some (.cells c ty fz)∧c.size=c0.size∧∀ j,(j<x.z.2+x.pos∨x.z.2+x.pos+x.c.length≤j)→c[j]? = c0[j]?)
  (hown:∀ g∈x.f1++x.f3,w'.heap[g]? = w.heap[g]?) (hro:∀ g,g<w.heap.size→¬ M g→w'.heap[g]? = w.heap[g]?) (hM:∀ g,g<w.heap.size→¬ M g→¬ M' g) (hX:X.Le X') (hA:X'.A x.id=X.A x.id) (hC:X'.C x.id=X.C x.id) :
  BlkR w' M' X' x.id x.B' (x.f1++f'++x.f3):=by
 obtain ⟨xs,hat,hxl,c1,c2,c3,hrow⟩:=h.ex;obtain ⟨cs,ty,fz,cs',hg,hg',hsz,hout⟩:=hw;have hck:x.ce.length=x.B.k:=h.k _ (List.mem_of_getElem? h.ce);have hel:x.e<x.B.l.length:=(List.getElem?_eq_some_iff.1 h.ce).1;have hle:=h.le;have hpos0:=h.pos;have hfl:=flatten_len x.B.l h.k;have hle2:x.e*x.B.k+x.B.k≤x.B.l.length*x.B.k:=by rw [← Nat.succ_mul];exact Nat.mul_le_mul_right _ hel
 have hvl:vs'.length=x.c.length:=by rw [← hr.1,hl]
 have hpos:x.pos+x.c.length≤xs.length:=by unfold WI.pos;omega
 have hfs:=flatten_splice x.B.l h.k x.e x.j x.ce x.c' h.ce (by omega);have hat0:∀ q u,xs[q]? = some u→cs[x.z.2+q]? = some u:=by
  intro q u hu;have:=(hat q u hu).1;rw [add_baseOf,cell_of_row w x.z.1 _ cs ty fz hg] at this;exact this
 have hatv:∀ q u,vs'[q]? = some u→cs'[x.z.2+x.pos+q]? = some u:=by
  intro q u hu;have:=(hc q u hu).1;rw [add_baseOf,cell_of_row w' x.z.1 _ cs' ty fz hg'] at this;exact this
 have hcell':∀ q u,(splice xs x.pos vs')[q]? = some u→cs'[x.z.2+q]? = some u:=by
  intro q u hu;rw [splice_get (by omega)] at hu;by_cases h2:x.pos≤q∧q<x.pos+vs'.length
  ·rw [if_pos h2] at hu;have:=hatv _ u hu
   rwa [show x.z.2+x.pos+(q-x.pos)=x.z.2+q by omega] at this
  ·rw [if_neg h2] at hu;rw [hout _ (by omega)];exact hat0 q u hu
 refine ⟨?_,splice xs x.pos vs',?_,?_⟩
 ·intro c0 hc0;rcases List.mem_or_eq_of_mem_set (show c0∈x.B.l.set x.e (splice x.ce x.j x.c') from hc0) with h1|rfl
  ·exact h.k _ h1
  ·rw [splice_len (by omega)];exact hck
 ·have q1:=c1.frame (w':=w') (fun g hg0=>hown g (by simp [hg0])) hro hM hX;have q3:=c3.frame (w':=w') (fun g hg0=>hown g (by simp [hg0])) hro hM hX;have q:=(q1.append hr).append q3;have e0:x.B'.l.flatten=List.take x.pos x.B.l.flatten++x.c'++List.drop (x.pos+x.c.length) x.B.l.flatten:=by
   show (x.B.l.set x.e (splice x.ce x.j x.c')).flatten=_;rw [hfs,splice_parts,hl];rfl
  have e1:splice xs x.pos vs'=xs.take x.pos++vs'++xs.drop (x.pos+x.c.length):=by rw [splice_parts,hvl]
  rw [e0,e1];exact q
 ·have hbl:x.B'.l.length=x.B.l.length:=by simp [WI.B']
  rcases hrow with ⟨h0,e',hr'⟩|⟨h0,h1⟩
  ·refine .inl ⟨h0,e',?_⟩;rw [hA,hC,hbl];show w'.ownsRow 0 e' x.B.k _ _ _;refine ⟨by rw [splice_len (by omega)];exact hr'.1,?_⟩;rcases hr'.2 with ⟨h1,h2⟩|⟨g,cap,cur,he,hb0,hgg,hn,hm,hs,ht⟩
   ·rw [h.A] at h1;simp at h1
   ·have he2:=he;rw [h.A] at he;simp only [Option.map_some,Value.slice.injEq,osi,baseOf,Addr.mk.injEq] at he;obtain ⟨⟨h1,h2,_⟩,_,h3⟩:=he;subst h1;rw [hg] at hgg;injection hgg with hgg;injection hgg with e1 e2 e3;subst e1 e2 e3
    refine .inr ⟨x.z.1,cap,cs',he2,hb0,hg',hn,hm,hsz.trans hs,?_⟩;apply List.ext_getElem?;intro q;rw [List.getElem?_take];have hxl2:(splice xs x.pos vs').length=x.B.l.length*x.B.k:=by rw [splice_len (by omega)];exact hr'.1
    by_cases hq:q<x.B.l.length*x.B.k
    ·rw [if_pos hq];have hu:=List.getElem?_eq_getElem (show q<(splice xs x.pos vs').length by omega);have:=hcell' q _ hu;rw [h2,Nat.zero_add] at this;rw [hu];simpa using this
    ·rw [if_neg hq,List.getElem?_eq_none (by omega)]
  ·refine .inr ⟨h0,x.z,hA.trans h.A,by rw [hbl];exact h1,fun q u hu => ?_⟩;have hq:q<xs.length:=by have:=(List.getElem?_eq_some_iff.1 hu).1;rw [splice_len (by omega)] at this;exact this
   have hf:=(hat q _ (List.getElem?_eq_getElem hq)).2;rw [add_baseOf] at hf ⊢;refine ⟨?_,?_⟩
   ·rw [cell_of_row w' x.z.1 _ cs' ty fz hg'];exact hcell' q u hu
   ·simp only [World.frozen?,hg',hg] at hf ⊢;exact hf
end
def thawRs:Nat→List R1→List R1×List (Nat×Slot)
 | _,[]=>([],[])
 | b,y::r=>(thawR b y::(thawRs (b+(thaw b y.cs).2.length) r).1,(thaw b y.cs).2++(thawRs (b+(thaw b y.cs).2.length) r).2)
def resRV:List R1→RV
 | [y]=>.r y
 | l=>.tup l
def deads:List Nat→List (Nat×Slot)
 | []=>[]
 | i::r=>(i,.dead)::deads r
def Slot.isLive:Slot→Bool
 | .live _=>true
 | _=>false
def callK (P:Program) (σ:St) (b:Nat) (f:FuncId) (is:List RV) (K:Eff→Prop):Prop :=
 ∃ args res,Con P f args res∧callPrep σ is args fun tk ln wr =>
  tk.Nodup∧(wr.map (·.1)).Nodup∧(∀ i∈tk,i∉wr.map (·.1))∧(∀ i∈ln,(σ.slot i).isLive=true∧i∉tk∧i∉wr.map (·.1)) ∧
  (ln=[]∨((∀ y∈res,∀ p∈y.cs,NoRo p)∧∀ y∈wArgs args,∀ p∈y.2,NoRo p))∧(∀ y∈(thawRs b res).2,σ.slot y.1=.fresh) ∧
  K { v:=resRV (thawRs b res).1,wh:=wr++(deads tk++(thawRs b res).2),rd:=ln++(tk++wr.map (·.1)) }
def OpS (P:Program) (G:Fr) (σ:St) (acts:List Act) (a:Act) (o:Oper) (w:World) (E:Eff):Prop :=
 ∀ (next:Act→World→Prop) (Q:Exit→Act→World→Prop),(∀ v w' X F,SimW G X F (setSlots σ E.wh) (a::acts) w'→RVR w' (Mut X F) X E.v v→next (a.put o.dst v) w')→o.wp P a w next Q
section
variable {P:Program} {G:Fr} {X X':Ctx} {F F':Nat→List Nat} {σ σ':St} {a:Act} {acts:List Act} {w w':World} {M M' N:Nat→Prop} {τ:Nat→Value} {o:Oper}
theorem Outs.opS {E:Eff} (h:Outs P G σ acts a o w E):OpS P G σ acts a o w E:=by
 intro next Q hk
 obtain ⟨v,w',hr,X,F,hs,hv⟩:=h;unfold Oper.wp;rcases hr with hr|⟨hr,rfl⟩
 ·rw [hr];exact hk v w' X F hs hv
 ·rw [hr];exact hk undef w' X F hs hv
theorem run_call {c:Call} {f:FuncId} (ho:o.op=.call c) (hc:c.callee=.value (.func f)) (hE:Enters P f):(execOp a.eval o).run P w=.ok (.enter f (c.args.map a.eval)) w:=by
 obtain ⟨fn,hf,hn,hb⟩:=hE;obtain ⟨callee,args,tys⟩:=c;simp only at hc;subst hc;have hn' : fn.name ≠ "runtime.NumGoroutine" := by simpa using hn
 have hb':fn.body≠none:=by intro e;rw [e] at hb;cases hb
 simp only [execOp,ho,resolve,Deferred.ofValue,Act.eval,invoke,callFunc];simp [hf,hn',hb']
theorem run_clo {c:Call} {t:Tmp} {f:FuncId} {xs:List Value} (ho:o.op=.call c) (hc:c.callee=.value (.tmp t)) (hv:a.eval (.tmp t)=.func (.func f) #[] xs.toArray) (hE:Enters P f):(execOp a.eval o).run P w=.ok (.enter f (c.args.map a.eval++xs.toArray)) w:=by
 obtain ⟨fn,hf,hn,hb⟩:=hE;obtain ⟨callee,args,tys⟩:=c;simp only at hc;subst hc;have hn' : fn.name ≠ "runtime.NumGoroutine" := by simpa using hn
 have hb':fn.body≠none:=by intro e;rw [e] at hb;cases hb
 simp only [execOp,ho,resolve,hv,Deferred.ofValue,invoke,callFunc];simp [hf,hn',hb',Deferred.ofValue,invoke,callFunc]
theorem thaw_ids:∀ (b:Nat) (ps:List PV),(thaw b ps).2.map (·.1)=List.range' b (thaw b ps).2.length
 | b,[]=>rfl
 | b,p::r=>by
  have i1:=thaw_ids b r;have i2:=thaw_ids (b+1) r;cases p<;>try exact i1
  rename_i o k l;cases o
  ·exact i1
  ·simp only [thaw,List.map_cons,List.length_cons,List.range'_succ,i2]
theorem thaw_fresh {b:Nat} {ps:List PV} {Q:Nat→Prop} (h:∀ y∈(thaw b ps).2,Q y.1) (i:Nat) (h1:b≤i) (h2:i<b+(thaw b ps).2.length):Q i:=by
 have:i∈(thaw b ps).2.map (·.1):=by rw [thaw_ids,List.mem_range'_1];exact ⟨h1,h2⟩
 obtain ⟨y,hy,rfl⟩:=List.mem_map.1 this;exact h y hy
theorem SimW.adoptRs:∀ {res:List R1} {us:List Value} {rf:List (List Nat)} {X:Ctx} {F:Nat→List Nat} {σ:St} (h:SimW G X F σ acts w) {b:Nat} {Xc:Ctx} (hr:∀ (j:Nat) (y:R1) (u:Value) (f:List Nat),res[j]? = some y→us[j]? = some u→rf[j]? = some f→R1R w M Xc y u f∧∀ p∈y.cs,NoRef p) (h1:res.length=us.length) (h2:rf.length=us.length) (hτ:Xc.τ=X.τ)
  (hb:∀ y∈(thawRs b res).2,X.H y.1=.fresh)
  (hfN:∀ g∈rf.flatten,X.N g) (hM:∀ g,g<w.heap.size→¬ M g→¬ X.N g∧¬ Mut1 X F g) (hnd:rf.flatten.Nodup) (hdj:∀ g∈rf.flatten,¬ Mut1 X F g) (hsrc:∀ g∈rf.flatten,G.own0 g∨G.w0.heap.size≤g),
  ∃ X' F',SimW G X' F' (setSlots σ (thawRs b res).2) acts w∧X.Le X'∧X'.N=X.N∧(thawRs b res).1.length=us.length ∧
   (∀ M',(∀ g,g<w.heap.size→¬ M g→¬ M' g)→∀ (j:Nat) (y:R1) (u:Value),(thawRs b res).1[j]? = some y→us[j]? = some u→R1R w M' X' y u [])∧(∀ g,Mut1 X' F' g↔Mut1 X F g∨g∈rf.flatten)
 | [],us,rf,X,F,σ,h,b,Xc,hr,h1,h2,hτ,hb,hfN,hM,hnd,hdj,hsrc=>by
  have e1:us=[]:=List.eq_nil_of_length_eq_zero h1.symm;subst e1;have e2:rf=[]:=List.eq_nil_of_length_eq_zero h2;subst e2;exact ⟨X,F,h,Ctx.Le.refl X,rfl,rfl,by simp,by simp⟩
 | y::res,us,rf,X,F,σ,h,b,Xc,hr,h1,h2,hτ,hb,hfN,hM,hnd,hdj,hsrc=>by
  cases us with
  | nil=>simp at h1
  | cons u us =>
  cases rf with
  | nil=>simp at h2
  | cons f rf =>
  simp only [List.flatten_cons] at hfN hnd hdj hsrc ⊢;simp only [thawRs] at hb ⊢;have hnd2:=List.nodup_append.1 hnd;obtain ⟨hy,hyn⟩:=hr 0 y u f rfl rfl rfl;have hb1:∀ i,b≤i→i<b+(thaw b y.cs).2.length→X.H i=.fresh:=fun i hi hi2=>thaw_fresh (Q:=fun i=>X.H i=.fresh) (fun z hz=>hb z (by simp [hz])) i hi hi2
  obtain ⟨X1,F1,s1,hX1,hN1,hv1,hM1,hf1⟩:=h.adoptR (b:=b) hy hyn hτ hb1 (fun g hg=>hfN g (by simp [hg])) hM hnd2.1 (fun g hg=>hdj g (by simp [hg])) (fun g hg=>hsrc g (by simp [hg]));have hids:∀ (b:Nat) (res:List R1),∀ z∈(thawRs b res).2,b≤z.1:=by
   intro b res;induction res generalizing b with
   | nil=>intro z hz;simp [thawRs] at hz
   | cons y r ih =>
    intro z hz;simp only [thawRs] at hz;rcases lma.1 hz with hz|hz
    ·have:z.1∈(thaw b y.cs).2.map (·.1):=List.mem_map.2 ⟨z,hz,rfl⟩;rw [thaw_ids,List.mem_range'_1] at this;omega
    ·have:=ih _ z hz;omega
  obtain ⟨X2,F2,s2,hX2,hN2,hl2,hv2,hM2⟩:=SimW.adoptRs (res:=res) (us:=us) (rf:=rf) s1 (b:=b+(thaw b y.cs).2.length) (Xc:=Xc) (fun j y u f e1 e2 e3=>hr (j+1) y u f (by simpa using e1) (by simpa using e2) (by simpa using e3)) (by simpa using h1) (by simpa using h2) (hτ.trans hX1.tok.symm)
   (fun z hz=>by rw [hf1 z.1 (.inr (hids _ _ z hz))];exact hb z (by simp only [lma];exact .inr hz))
   (fun g hg=>by rw [hN1];exact hfN g (by simp only [lma];exact .inr hg)) (fun g hg hnm=>by
    rw [hN1];have:=hM g hg hnm;refine ⟨this.1,fun hm => ?_⟩;rcases (hM1 g).1 hm with k1|k1
    ·exact this.2 k1
    ·exact this.1 (hfN g (by simp [k1]))) hnd2.2.1 (fun g hg hm=>by
    rcases (hM1 g).1 hm with k1|k1
    ·exact hdj g (by simp only [lma];exact .inr hg) k1
    ·exact hnd2.2.2 g k1 g hg rfl) (fun g hg=>hsrc g (by simp only [lma];exact .inr hg))
  refine ⟨X2,F2,by rw [setSlots_append];exact s2,hX1.trans hX2,hN2.trans hN1,by simp [hl2],fun M' hMM j z v e1 e2 => ?_,fun g => ?_⟩
  ·cases j with
   | zero =>
    simp only [List.getElem?_cons_zero,osi] at e1 e2;subst e1 e2;exact (hv1 M' hMM).frame (by simp) (fun _ _ _=>rfl) (fun _ _ k=>k) hX2
   | succ j=>exact hv2 M' hMM j z v (by simpa using e1) (by simpa using e2)
  ·rw [hM2 g,hM1 g];simp only [lma];exact or_assoc
theorem ResR.get {res:List R1} {us:List Value} {rf:List (List Nat)} (h:ResR w N τ res us rf):res.length=us.length∧rf.length=us.length∧∀ (j:Nat) (y:R1) (u:Value) (f:List Nat),res[j]? = some y→us[j]? = some u→rf[j]? = some f→R1R w N (X0 τ N) y u f∧∀ p∈y.cs,NoRef p:=by
 induction h with
 | nil=>exact ⟨rfl,rfl,by simp⟩
 | cons h hn t ih =>
  refine ⟨by simp [ih.1],by simp [ih.2.1],fun j y u f e1 e2 e3 => ?_⟩;cases j with
  | zero=>simp at e1 e2 e3;subst e1 e2 e3;exact ⟨h,hn⟩
  | succ j=>exact ih.2.2 j y u f (by simpa using e1) (by simpa using e2) (by simpa using e3)
theorem WinsR.get {as:List Arg} {ws:List (Nat×Nat×Nat)} {fw:List (List Nat)} (h:WinsR w N τ as ws fw):(wArgs as).length=ws.length∧fw.length=ws.length∧∀ (j:Nat) (y:List PV×List PV) (x:Nat×Nat×Nat) (f:List Nat),(wArgs as)[j]? = some y→ws[j]? = some x→fw[j]? = some f →
  ∃ vs,CellsAt w (x.1,x.2.1) vs∧RCs w N (X0 τ N) y.2 vs f∧(∀ p∈y.2,NoRef p)∧y.2.length=y.1.length:=by
 induction h with
 | nil=>exact ⟨rfl,rfl,by simp [wArgs]⟩
 | v t ih=>exact ih
 | o t ih=>exact ih
 | w hc h hn hl hx t ih =>
  refine ⟨by simp [wArgs,ih.1],by simp [ih.2.1],fun j y u f e1 e2 e3 => ?_⟩;cases j with
  | zero=>simp [wArgs] at e1 e2 e3;subst e1 e2 e3;exact ⟨_,hc,h,hn,hl⟩
  | succ j=>exact ih.2.2 j y u f (by simpa [wArgs] using e1) (by simpa using e2) (by simpa using e3)
end
section
variable {P:Program} {G:Fr} {X X':Ctx} {F F':Nat→List Nat} {σ σ':St} {a:Act} {acts:List Act} {w w':World} {M M' N:Nat→Prop} {τ:Nat→Value} {o:Oper}
theorem setSlots_not:∀ {l:List (Nat×Slot)} {σ:St} {i:Nat},i∉l.map (·.1)→(setSlots σ l).slot i=σ.slot i
 | [],σ,i,_=>rfl
 | (j,s)::l,σ,i,h=>by
  simp only [List.map_cons,List.mem_cons,not_or] at h;simp only [setSlots];rw [setSlots_not h.2,St.slot_setSlot,if_neg h.1]
theorem setSlots_mem:∀ {l:List (Nat×Slot)} {σ:St} {i:Nat} {s:Slot},(l.map (·.1)).Nodup→(i,s)∈l→(setSlots σ l).slot i=s
 | (j,t)::l,σ,i,s,hn,h=>by
  obtain ⟨h1,h2⟩:=List.nodup_cons.1 hn;simp only [setSlots];rcases List.mem_cons.1 h with e|h
  ·injection e with e1 e2;subst e1 e2;rw [setSlots_not h1,St.slot_setSlot,if_pos rfl]
  ·exact setSlots_mem h2 h
theorem deads_keys:∀ (l:List Nat),(deads l).map (·.1)=l
 | []=>rfl
 | i::l=>by simp [deads,deads_keys l]
theorem deads_mem:∀ {l:List Nat} {i:Nat},i∈l→(i,Slot.dead)∈deads l
 | j::l,i,h=>by
  rcases List.mem_cons.1 h with rfl|h
  ·simp [deads]
  ·simp [deads,deads_mem h]
def newF (F:Nat→List Nat):List WI→List (List Nat)→Nat→List Nat
 | x::L,f::fs,i=>if i=x.id then x.f1++f++x.f3 else newF F L fs i
 | _,_,i=>F i
theorem newF_not {F:Nat→List Nat}:∀ {L:List WI} {fs:List (List Nat)} {i:Nat},i∉L.map (·.id)→newF F L fs i=F i
 | [],fs,i,_=>by cases fs<;>rfl
 | x::L,[],i,_=>rfl
 | x::L,f::fs,i,h=>by
  simp only [List.map_cons,List.mem_cons,not_or] at h;simp only [newF,if_neg h.1];exact newF_not h.2
theorem newF_at {F:Nat→List Nat}:∀ {L:List WI} {fs:List (List Nat)} {k:Nat} {x:WI} {f:List Nat},(L.map (·.id)).Nodup→L[k]? = some x→fs[k]? = some f→newF F L fs x.id=x.f1++f++x.f3
 | y::L,g::fs,0,x,f,hn,hx,hf=>by
  simp at hx hf;subst hx hf;simp [newF]
 | y::L,g::fs,k+1,x,f,hn,hx,hf=>by
  obtain ⟨h1,h2⟩:=List.nodup_cons.1 hn;have hx':L[k]? = some x:=by simpa using hx
  have hne:x.id≠y.id:=fun e=>h1 (List.mem_map.2 ⟨x,List.mem_of_getElem? hx',e⟩)
  simp only [newF,if_neg hne];exact newF_at h2 hx' (by simpa using hf)
theorem Kept.call {w0:World} {own:Nat→Prop} {wins:List (Nat×Nat×Nat)} (h:Kept w0 w own wins) {fp:List Nat} {ws:List (Nat×Nat×Nat)} (k:Kept w w' (·∈fp) ws)
  (hfp:∀ g∈fp,own g∨w0.heap.size≤g) (hfw:∀ g∈fp,∀ y∈wins,y.1≠g)
  (hws:∀ x∈ws,own x.1∨(∃ y∈wins,y.1=x.1)∨w0.heap.size≤x.1) (hin:∀ x∈ws,∀ y∈wins,y.1=x.1→y.2.1≤x.2.1∧x.2.1+x.2.2≤y.2.1+y.2.2):Kept w0 w' own wins where
 os:=k.os.trans h.os
 tape:=k.tape.trans h.tape
 output:=k.output.trans h.output
 size:=Nat.le_trans h.size k.size
 old:=fun g hg hn hw=>by
  rw [k.old g (Nat.lt_of_lt_of_le hg h.size) (fun hgf=>(hfp g hgf).elim hn fun hh=>by omega) (fun x hx e=>by
   subst e;rcases hws x hx with h1|⟨y,hy,h1⟩|h1
   ·exact hn h1
   ·exact hw y hy h1
   ·omega)]
  exact h.old g hg hn hw
 win:=fun y hy=>by
  obtain ⟨c0,ty,fz,c,h1,h2,h3,h4⟩:=h.win y hy;by_cases e:∃ x∈ws,y.1=x.1
  ·obtain ⟨x,hx,e⟩:=e;obtain ⟨c1,ty',fz',c',k1,k2,k3,k4⟩:=k.win x hx;rw [← e,h2] at k1;injection k1 with k1;injection k1 with e1 e2 e3;subst e1 e2 e3;have hr:=hin x hx y hy e;exact ⟨c0,_,_,c',h1,by rw [e];exact k2,k3.trans h3,fun j hj=>(k4 j (by omega)).trans (h4 j hj)⟩
  ·have hlt:y.1<w.heap.size:=(Array.getElem?_eq_some_iff.1 h2).1;exact ⟨c0,ty,fz,c,h1,by rw [k.old y.1 hlt (fun hg=>hfw _ hg y hy rfl) (fun x hx e'=>e ⟨x,hx,e'.symm⟩)];exact h2,h3,h4⟩
set_option maxHeartbeats 4000000 in
theorem sound_call' (h:SimW G X F σ (a::acts) w) (hXN:X.N=G.N) {f:FuncId} {is:List RV} {us0:List Value} {b:Nat} {K:Eff→Prop} (hrun:Enters P f→(execOp a.eval o).run P w=.ok (.enter f us0.toArray) w) (hix:All2 (fun u y=>RVR w (Mut X F) X y u) us0 is)
  (hk:callK P σ b f is K):∃ E,K E∧OpS P G σ acts a o w E:=by
 obtain ⟨args,res,⟨hE,hcon⟩,hp⟩:=hk;obtain ⟨tk,ln,L,hK,hL,hLw,htk,harg⟩:=h.prep_ok rfl hix hp;obtain ⟨htn,hwn,htw,hln,hro,hfr,hK⟩:=hK;refine ⟨_,hK,?_⟩;have hids:(L.map WI.wr).map (·.1)=L.map (·.id):=by simp [WI.wr]
 rw [hids] at hwn htw;have htl:∀ i∈tk,∃ B,X.H i=.live B∧B.kd=0:=fun i hi=>htk i hi htn
 have hlive:∀ i∈ln,∃ B,X.H i=.live B:=by
  intro i hi;have:=(hln i hi).1;rw [← h.hH] at this;cases hs:X.H i with
  | live B=>exact ⟨B,rfl⟩
  | fresh=>rw [hs] at this;cases this
  | dead=>rw [hs] at this;cases this
 let NA:Nat→Prop:=fun g=>Mut X F g∧∀ i∈ln,g∉Own X F i
 obtain ⟨fo,hA,hfo,hfoO⟩:=harg NA (fun g _ hg hn=>hg hn.1) (fun i hi g hg hn=>hn.2 i hi hg) htn;have hLid:∀ x∈L,X.H x.id=.live x.B:=fun x hx=>(hL x hx).live
 have hOwnL:∀ x∈L,Own X F x.id=x.z.1::(x.f1++x.f2++x.f3):=fun x hx=>by simp [Own,(hL x hx).A,(hL x hx).F]
 have hLtk:∀ x∈L,x.id∉tk:=fun x hx hm=>htw _ hm (List.mem_map.2 ⟨x,hx,rfl⟩)
 have hLln:∀ x∈L,x.id∉ln:=fun x hx hm=>(hln _ hm).2.2 (by rw [hids];exact List.mem_map.2 ⟨x,hx,rfl⟩)
 have hLne:∀ (k k':Nat) (x x':WI),L[k]? = some x→L[k']? = some x'→k≠k'→x.id≠x'.id:=by
  intro k k' x x' e1 e2 hne e;have hp:=List.pairwise_iff_getElem.1 hwn;obtain ⟨i1,rfl⟩:=List.getElem?_eq_some_iff.1 e1;obtain ⟨i2,rfl⟩:=List.getElem?_eq_some_iff.1 e2;rcases Nat.lt_or_gt_of_ne hne with hlt|hlt
  ·exact hp k k' (by simpa using i1) (by simpa using i2) hlt (by simpa using e)
  ·exact hp k' k (by simpa using i2) (by simpa using i1) hlt (by simpa using e.symm)
 let fp:=fo.flatten++(L.map (·.f2)).flatten
 have hf2:∀ g∈(L.map (·.f2)).flatten,∃ x∈L,g∈x.f2:=by
  intro g hg;obtain ⟨f,hf,hgf⟩:=List.mem_flatten.1 hg;obtain ⟨x,hx,rfl⟩:=List.mem_map.1 hf;exact ⟨x,hx,hgf⟩
 have hfpO:∀ g∈fp,(∃ i∈tk,g∈Own X F i)∨∃ x∈L,g∈x.f2:=fun g hg=>(lma.1 hg).imp (hfoO g) (hf2 g)
 have hfpM:∀ g∈fp,Mut1 X F g:=by
  intro g hg;rcases hfpO g hg with ⟨i,hi,h1⟩|⟨x,hx,h1⟩
  ·obtain ⟨B,hB,_⟩:=htl i hi;exact ⟨i,B,hB,h1⟩
  ·exact ⟨x.id,x.B,hLid x hx,by rw [hOwnL x hx];simp [h1]⟩
 have hfpNot:∀ i B,X.H i=.live B→i∉tk→i∉L.map (·.id)→∀ g∈Own X F i,g∉fp:=by
  intro i B hB h1 h2 g hg hgf;rcases hfpO g hgf with ⟨j,hj,h3⟩|⟨x,hx,h3⟩
  ·obtain ⟨B',hB',_⟩:=htl j hj;exact h.dj i j B B' hB hB' (fun e=>h1 (e▸hj)) g hg h3
  ·exact h.dj i x.id B x.B hB (hLid x hx) (fun e=>h2 (e▸List.mem_map.2 ⟨x,hx,rfl⟩)) g hg (by rw [hOwnL x hx];simp [h3])
 have hndL:∀ x∈L,(x.z.1::(x.f1++x.f2++x.f3)).Nodup:=fun x hx=>by rw [← hOwnL x hx];exact h.nd x.id x.B (hLid x hx)
 have hLeq:∀ x∈L,∀ y∈L,x.id=y.id→x=y:=by
  intro x hx y hy e;obtain ⟨k,hk⟩:=List.getElem?_of_mem hx;obtain ⟨k',hk'⟩:=List.getElem?_of_mem hy;by_cases hkk:k=k'
  ·subst hkk;rw [hk] at hk';exact Option.some.inj hk'
  ·exact (hLne k k' x y hk hk' hkk e).elim
 have hfpz:∀ x∈L,∀ g∈fp,g≠x.z.1∧g∉x.f1∧g∉x.f3:=by
  intro x hx g hg;have key:g∈Own X F x.id→g∈x.f2:=by
   intro ho';rcases hfpO g hg with ⟨i,hi,h1⟩|⟨y,hy,h1⟩
   ·obtain ⟨B,hB,_⟩:=htl i hi;exact (h.dj i x.id B x.B hB (hLid x hx) (fun e=>hLtk x hx (e▸hi)) g h1 ho').elim
   ·by_cases e:y.id=x.id
    ·rw [← hLeq y hy x hx e];exact h1
    ·exact (h.dj y.id x.id y.B x.B (hLid y hy) (hLid x hx) e g (by rw [hOwnL y hy];simp [h1]) ho').elim
  have hn:=hndL x hx;obtain ⟨n1,n2⟩:=List.nodup_cons.1 hn;have n3:=List.nodup_append.1 n2;have n4:=List.nodup_append.1 n3.1;refine ⟨fun e => ?_,fun e => ?_,fun e => ?_⟩
  ·have:=key (by rw [hOwnL x hx];simp [e]);exact n1 (by rw [← e];simp [this])
  ·have:=key (by rw [hOwnL x hx];simp [e]);exact n4.2.2 g e g this rfl
  ·have:=key (by rw [hOwnL x hx];simp [e]);exact n3.2.2 g (by simp [this]) g e rfl
 have hws1:(L.map WI.ws).map (·.1)=L.map (·.z.1):=by simp [WI.ws]
 have hzne:∀ x∈L,∀ y∈L,x.z.1=y.z.1→x=y:=by
  intro x hx y hy e;apply Classical.byContradiction;intro hne;have:x.id≠y.id:=fun e=>hne (hLeq x hx y hy e)
  exact h.dj x.id y.id x.B y.B (hLid x hx) (hLid y hy) this x.z.1 (by rw [hOwnL x hx];simp) (by rw [hOwnL y hy];simp [e])
 have hndall:(fo.flatten++(L.map (·.f2)).flatten++(L.map WI.ws).map (·.1)).Nodup:=by
  rw [hws1];refine List.nodup_append.2 ⟨List.nodup_append.2 ⟨hfo,?_,fun g hg g' hg' e => ?_⟩,?_,fun g hg g' hg' e => ?_⟩
  ·show List.Pairwise _ _;refine List.pairwise_flatten.2 ⟨fun f hf => ?_,?_⟩
   ·obtain ⟨x,hx,rfl⟩:=List.mem_map.1 hf;have n2:=(List.nodup_cons.1 (hndL x hx)).2;exact (List.nodup_append.1 (List.nodup_append.1 n2).1).2.1
   ·refine List.pairwise_iff_getElem.2 fun i j hi hj hij g hg g' hg' e => ?_
    subst e;simp only [List.getElem_map] at hg hg';simp only [List.length_map] at hi hj;exact h.dj _ _ _ _ (hLid _ (List.getElem_mem hi)) (hLid _ (List.getElem_mem hj)) (hLne i j _ _ (List.getElem?_eq_getElem hi) (List.getElem?_eq_getElem hj) (by omega)) g (by rw [hOwnL _ (List.getElem_mem hi)];simp [hg]) (by rw [hOwnL _ (List.getElem_mem hj)];simp [hg'])
  ·subst e;obtain ⟨i,hi,h1⟩:=hfoO g hg;obtain ⟨x,hx,h2⟩:=hf2 g hg';obtain ⟨B,hB,_⟩:=htl i hi;exact h.dj i x.id B x.B hB (hLid x hx) (fun e=>hLtk x hx (e▸hi)) g h1 (by rw [hOwnL x hx];simp [h2])
  ·refine List.pairwise_iff_getElem.2 fun i j hi hj hij e => ?_
   simp only [List.getElem_map] at e;simp only [List.length_map] at hi hj;have:=hzne _ (List.getElem_mem hi) _ (List.getElem_mem hj) e;exact hLne i j _ _ (List.getElem?_eq_getElem hi) (List.getElem?_eq_getElem hj) (by omega) (by rw [this])
  ·obtain ⟨x,hx,rfl⟩:=List.mem_map.1 hg';exact (hfpz x hx g hg).1 e
 have hallM:∀ g∈fo.flatten++(L.map (·.f2)).flatten++(L.map WI.ws).map (·.1),NA g:=by
  intro g hg;rw [hws1] at hg;have:∃ i B,X.H i=.live B∧g∈Own X F i∧i∉ln:=by
   rcases lma.1 hg with hg|hg
   ·rcases hfpO g hg with ⟨i,hi,h1⟩|⟨x,hx,h1⟩
    ·obtain ⟨B,hB,_⟩:=htl i hi;exact ⟨i,B,hB,h1,fun hl=>(hln i hl).2.1 hi⟩
    ·exact ⟨x.id,x.B,hLid x hx,by rw [hOwnL x hx];simp [h1],hLln x hx⟩
   ·obtain ⟨x,hx,rfl⟩:=List.mem_map.1 hg;exact ⟨x.id,x.B,hLid x hx,by rw [hOwnL x hx];simp,hLln x hx⟩
  obtain ⟨i,B,hB,h1,h2⟩:=this;refine ⟨.inr ⟨i,B,hB,h1⟩,fun j hj hg' => ?_⟩;obtain ⟨B',hB'⟩:=hlive j hj;exact h.dj i j B B' hB hB' (fun e=>h2 (e▸hj)) g h1 hg'
 let N:Nat→Prop:=fun g=>NA g∧g∉fp
 have hNA:NA=fun g=>N g∨g∈fp:=by
  funext g
  refine propext ⟨fun hg => ?_,fun hg => ?_⟩
  ·by_cases e:g∈fp
   ·exact .inr e
   ·exact .inl ⟨hg,e⟩
  ·rcases hg with hg|hg
   ·exact hg.1
   ·exact hallM g (lma.2 (.inl hg))
 have hA':ArgsR w (fun g=>N g∨g∈fo.flatten++(L.map (·.f2)).flatten) X.τ args us0 fo (L.map (·.f2)) (L.map WI.ws):=by
  have hh:=hA;rw [hNA] at hh;exact hh
 have hMlt:∀ g,Mut1 X F g→g<w.heap.size:=h.lt;have hwinfp:∀ g∈fp,∀ y∈G.wins,y.1≠g:=by
  rintro g hg y hy rfl;obtain ⟨i,hi⟩:=List.getElem?_of_mem hy;obtain ⟨B,hB,hkd,hAy,_⟩:=h.win i y hi;have hyo:y.1∈Own X F i:=by simp [Own,hAy]
  rcases hfpO _ hg with ⟨j,hj,h3⟩|⟨x,hx,h3⟩
  ·obtain ⟨B',hB',hkd'⟩:=htl j hj;exact h.dj i j B B' hB hB' (fun e=>by subst e;rw [hB] at hB';injection hB' with hB';subst hB';omega) _ hyo h3
  ·by_cases e:x.id=i
   ·subst e;have hzz:=(hL x hx).A;rw [hAy] at hzz;injection hzz with hzz
    have n1:=(List.nodup_cons.1 (hndL x hx)).1;exact n1 (by rw [← hzz];simp [h3])
   ·exact h.dj x.id i x.B B (hLid x hx) hB e _ (by rw [hOwnL x hx];simp [h3]) hyo
 have hfpsrc:∀ g∈fp,G.own0 g∨G.w0.heap.size≤g:=fun g hg=>by
  rcases h.src g (hfpM g hg) with k|⟨y,hy,k⟩|k
  ·exact .inl k
  ·exact (hwinfp g hg y hy k).elim
  ·exact .inr k
 have hfpN:∀ g∈fp,¬ G.N g:=fun g hg hn=>by
  rcases hfpsrc g hg with k|k
  ·exact h.gok.1 g k hn
  ·have:=h.gok.2 g hn;omega
 intro next Q hnext
 unfold Oper.wp;rw [hrun hE];show Calls P f us0.toArray w _;have hXlt:∀ g,X.N g→g<w.heap.size:=fun g hg=>by rw [hXN] at hg;exact Nat.lt_of_lt_of_le (h.gok.2 g hg) h.kept.size
 have hXfp:∀ g,X.N g→g∉fp:=fun g hg hf=>hfpN g hf (by rw [hXN] at hg;exact hg)
 have hNlt:∀ g,N g→g<w.heap.size:=by
  intro g hg;rcases hg.1.1 with k|k
  ·exact hXlt g k
  ·exact h.lt g k
 refine Calls.mono (hcon w X.τ N _ fo _ _ hA' hndall (fun g hg=>⟨hallM g (lma.2 (.inr hg)),fun hf=>(List.nodup_append.1 hndall).2.2 g hf g hg rfl⟩) (fun g hg hn=>hn.2 hg) hNlt) fun e w' hpost => ?_
 obtain ⟨u,rfl,hkept,us,rf,fw,hu,hres,hwins,hnd',hg'⟩:=hpost;show next (a.put o.dst u) w'
 have hres':=hres.get;have hwins':=hwins.get;have hwl:fw.length=L.length:=by rw [hwins'.2.1];simp
 have hnd1:=List.nodup_append.1 hnd';have hnd2:=List.nodup_append.1 hnd1.1;have hfwf:=nodup_flat hnd2.2.1
 let M0:Nat→Prop:=fun g=>(Mut X F g∧g∉fp)∨g∈rf.flatten++fw.flatten
 have hflM:∀ g,g<w.heap.size→g∈rf.flatten++fw.flatten→Mut1 X F g:=fun g hg hgf=>(hg' g hgf).1.elim (hfpM g) fun hh=>by omega
 have hM0:∀ g,g<w.heap.size→M0 g→Mut X F g:=fun g hg hm=>hm.elim (·.1) fun k=>.inr (hflM g hg k)
 have h1:=h.reN M0 (fun g hg=>.inl ⟨.inl (h.hN g hg),fun hf=>hfpN g hf hg⟩) hM0
 let wl:=L.map WI.wr++deads tk
 have hkeys:(wl.map (·.1)).Nodup:=by
  simp only [wl,List.map_append,hids,deads_keys];exact List.nodup_append.2 ⟨hwn,htn,fun i hi j hj e=>htw j hj (e▸hi)⟩
 let X1:Ctx:=⟨fun i=>(setSlots σ wl).slot i,X.A,X.C,X.τ,M0⟩
 let F1:=newF F L fw
 have hwlk:∀ i,i∈wl.map (·.1)↔i∈L.map (·.id)∨i∈tk:=by
  intro i;simp only [wl,List.map_append,hids,deads_keys,lma]
 have hH1:∀ x∈L,X1.H x.id=.live x.B':=fun x hx=>setSlots_mem hkeys (lma.2 (.inl (List.mem_map.2 ⟨x,hx,rfl⟩)))
 have hH2:∀ i∈tk,X1.H i=.dead:=fun i hi=>setSlots_mem hkeys (lma.2 (.inr (deads_mem hi)))
 have hH3:∀ i,i∉L.map (·.id)→i∉tk→X1.H i=X.H i:=fun i h1 h2=>by
  show (setSlots σ wl).slot i=_;rw [setSlots_not (by rw [hwlk];exact fun k=>k.elim h1 h2),h.hH]
 have cases1:∀ i B,X1.H i=.live B→(∃ (k:Nat) (x:WI) (f:List Nat),L[k]? = some x∧fw[k]? = some f∧i=x.id∧B=x.B'∧F1 i=x.f1++f++x.f3)∨(i∉L.map (·.id)∧i∉tk∧X.H i=.live B∧F1 i=F i):=by
  intro i B hi;by_cases e1:i∈L.map (·.id)
  ·obtain ⟨x,hx,rfl⟩:=List.mem_map.1 e1;obtain ⟨k,hk⟩:=List.getElem?_of_mem hx;have hlt:k<L.length:=(List.getElem?_eq_some_iff.1 hk).1;have hf:=List.getElem?_eq_getElem (show k<fw.length by omega);rw [hH1 x hx] at hi;injection hi with hi
   exact .inl ⟨k,x,_,hk,hf,rfl,hi.symm,newF_at hwn hk hf⟩
  ·by_cases e2:i∈tk
   ·rw [hH2 i e2] at hi;cases hi
   ·rw [hH3 i e1 e2] at hi;exact .inr ⟨e1,e2,hi,newF_not e1⟩
 have own1:∀ (k:Nat) (x:WI) (f:List Nat),L[k]? = some x→fw[k]? = some f→Own X1 F1 x.id=x.z.1::(x.f1++f++x.f3):=by
  intro k x f hk hf;have hx:=List.mem_of_getElem? hk;have e1:F1 x.id=x.f1++f++x.f3:=newF_at hwn hk hf;have e2:X1.A x.id=some x.z:=(hL x hx).A;simp [Own,e1,e2]
 have own2:∀ i,F1 i=F i→Own X1 F1 i=Own X F i:=fun i e=>by simp only [Own,e];rfl
 have hinf:∀ (k:Nat) (f:List Nat),fw[k]? = some f→∀ g∈f,g∈fw.flatten:=fun k f hf g hg=>List.mem_flatten.2 ⟨f,List.mem_of_getElem? hf,hg⟩
 have P1:∀ i B,X1.H i=.live B→∀ g∈Own X1 F1 i,((∃ B0,X.H i=.live B0)∧g∈Own X F i∧g∉fp∧g<w.heap.size)∨(∃ (k:Nat) (x:WI) (f:List Nat),L[k]? = some x∧fw[k]? = some f∧i=x.id∧g∈f):=by
  intro i B hi g hg;rcases cases1 i B hi with ⟨k,x,f,hk,hf,rfl,rfl,e⟩|⟨e1,e2,e3,e4⟩
  ·have hx:=List.mem_of_getElem? hk;rw [own1 k x f hk hf] at hg;have key:g=x.z.1∨g∈x.f1∨g∈x.f3→((∃ B0,X.H x.id=.live B0)∧g∈Own X F x.id∧g∉fp∧g<w.heap.size):=by
    intro hh;have ho':g∈Own X F x.id:=by
     rw [hOwnL x hx];rcases hh with rfl|hh|hh
     ·exact List.mem_cons_self
     ·exact List.mem_cons_of_mem _ (lma.2 (.inl (lma.2 (.inl hh))))
     ·exact List.mem_cons_of_mem _ (lma.2 (.inr hh))
    refine ⟨⟨_,hLid x hx⟩,ho',fun hgf => ?_,h.lt g ⟨x.id,x.B,hLid x hx,ho'⟩⟩;obtain ⟨z1,z2,z3⟩:=hfpz x hx g hgf;rcases hh with hh|hh|hh
    ·exact z1 hh
    ·exact z2 hh
    ·exact z3 hh
   rcases List.mem_cons.1 hg with hg|hg
   ·exact .inl (key (.inl hg))
   ·rcases lma.1 hg with hg|hg
    ·rcases lma.1 hg with hg|hg
     ·exact .inl (key (.inr (.inl hg)))
     ·exact .inr ⟨k,x,f,hk,hf,rfl,hg⟩
    ·exact .inl (key (.inr (.inr hg)))
  ·rw [own2 i e4] at hg;exact .inl ⟨⟨B,e3⟩,hg,hfpNot i B e3 e2 e1 g hg,h.lt g ⟨i,B,e3,hg⟩⟩
 have hfnew:∀ g∈rf.flatten++fw.flatten,∀ i B,X.H i=.live B→g∈Own X F i→g∈fp:=fun g hg i B hB ho'=>(hg' g hg).1.elim id fun hh=>by have:=h.lt g ⟨i,B,hB,ho'⟩;omega
 have hM1:∀ g,Mut1 X1 F1 g→Mut1 X F g∨g∈fw.flatten:=by
  rintro g ⟨i,B,hi,hg⟩;rcases P1 i B hi g hg with ⟨⟨B0,hB0⟩,k1,_⟩|⟨k,x,f,hk,hf,_,hgf⟩
  ·exact .inl ⟨i,B0,hB0,k1⟩
  ·exact .inr (hinf k f hf g hgf)
 have hMutM0:∀ g,Mut X1 F1 g→M0 g:=fun g hg=>hg.elim id fun ⟨i,B,hi,hgo⟩=>by
  rcases P1 i B hi g hgo with ⟨⟨B0,hB0⟩,k1,k2,_⟩|⟨k,x,f,hk,hf,_,hgf⟩
  ·exact .inl ⟨.inr ⟨i,B0,hB0,k1⟩,k2⟩
  ·exact .inr (lma.2 (.inr (hinf k f hf g hgf)))
 have hX:X.Le X1:=by
  refine ⟨fun i e => ?_,fun i B e => ?_,rfl⟩
  ·by_cases e1:i∈L.map (·.id)
   ·obtain ⟨x,hx,rfl⟩:=List.mem_map.1 e1;rw [hH1 x hx] at e;cases e
   ·by_cases e2:i∈tk
    ·rw [hH2 i e2] at e;cases e
    ·rw [hH3 i e1 e2] at e;exact e
  ·rcases cases1 i B e with ⟨k,x,f,hk,hf,rfl,rfl,_⟩|⟨_,_,e3,_⟩
   ·exact .inr ⟨x.B,hLid x (List.mem_of_getElem? hk),.inr ⟨by simp [WI.B'],rfl,rfl,rfl,rfl⟩⟩
   ·exact .inr ⟨B,e3,.inr ⟨rfl,rfl,rfl,rfl,rfl⟩⟩
 have hX':(X.withN M0).Le X1:=⟨hX.fresh,hX.live,hX.tok⟩
 have hwsz:∀ x∈L,x.z.1∈Own X F x.id:=fun x hx=>by rw [hOwnL x hx];simp
 have hheap:∀ g,g<w.heap.size→¬ Mut X F g→w'.heap[g]? = w.heap[g]? := fun g hg hn=>hkept.old g hg (fun hgf=>hn (.inr (hfpM g hgf))) fun y hy e=>by
  obtain ⟨x,hx,rfl⟩:=List.mem_map.1 hy;exact hn (.inr ⟨x.id,x.B,hLid x hx,e▸hwsz x hx⟩)
 have hkept':Kept G.w0 w' G.own0 G.wins:=h.kept.call hkept hfpsrc hwinfp (fun y hy=>by
  obtain ⟨x,hx,rfl⟩:=List.mem_map.1 hy;exact h.src x.z.1 ⟨x.id,x.B,hLid x hx,hwsz x hx⟩) (fun y hy v hv e=>by
  obtain ⟨x,hx,rfl⟩:=List.mem_map.1 hy;obtain ⟨k1,k2,k3,k4⟩:=h.win_id (hLid x hx) (hL x hx).A hv e;have hlt:=(List.getElem?_eq_some_iff.1 (hL x hx).ce).1;have he0:x.e=0:=by omega
  have hck:=(hL x hx).k _ (List.mem_of_getElem? (hL x hx).ce);have hle:=(hL x hx).le;have hz2:x.z.2=v.2.1:=by rw [k2]
  show v.2.1≤x.z.2+x.pos∧x.z.2+x.pos+x.c.length≤v.2.1+v.2.2;have hpp:x.pos=x.j:=by unfold WI.pos;rw [he0];simp
  omega)
 have hmove:∀ {p:PV} {u:Value} {f:List Nat},NoRef p→(ln=[]∨NoRo p)→RC w' (fun g=>N g∨g∈rf.flatten++fw.flatten) (X0 X.τ fun g=>N g∨g∈rf.flatten++fw.flatten) p u f→∀ (M':Nat→Prop) (X':Ctx),X'.τ=X.τ→(∀ g,M' g→M0 g)→RC w' M' X' p u f:=by
  intro p u f hn hl hr M' X' hτ' hMM;rcases hl with hl|hl
  ·refine hr.move hn (fun _ _=>rfl) (fun _ _ _=>rfl) (fun g _ hg hm=>hg ?_) hτ';rcases hMM g hm with k|k
   ·exact .inl ⟨⟨k.1,fun i hi=>by rw [hl] at hi;cases hi⟩,k.2⟩
   ·exact .inr k
  ·exact hr.moveOwn hl (fun _ _=>rfl) hτ'
 have hs1:SimW G X1 F1 (setSlots σ wl) (a::acts) w':=by
  have hse:=setSlots_env wl σ;refine h1.step (fun i=>rfl) hX' rfl hse.1 hse.2 (fun g hg => ?_) (fun g hg => ?_) (fun g hg hn=>hheap g hg fun hm=>hn (hm.elim (fun k=>.inl (.inl ⟨.inl k,hXfp g k⟩)) .inr)) hkept' (fun i B hi => ?_) (fun i B hi => ?_) (fun i j B B' hi hj hij g hg hg2 => ?_) (fun i y hy => ?_)
  ·rcases hM1 g hg with k|k
   ·exact .inl k
   ·rcases (hg' g (lma.2 (.inr k))).1 with k2|k2
    ·exact .inl (hfpM g k2)
    ·exact .inr k2
  ·rcases hM1 g hg with k|k
   ·exact Nat.lt_of_lt_of_le (h.lt g k) hkept.size
   ·exact (hg' g (lma.2 (.inr k))).2
  ·rcases cases1 i B hi with ⟨k,x,f,hk,hf,rfl,rfl,e⟩|⟨e1,e2,e3,e4⟩
   ·have hx:=List.mem_of_getElem? hk;have hk2:(wArgs args)[k]? = some (x.c,x.c'):=by rw [hLw,List.getElem?_map,hk];rfl
    have hk3:(L.map WI.ws)[k]? = some x.ws:=by rw [List.getElem?_map,hk];rfl
    obtain ⟨vs,w1,w2,w3,w4⟩:=hwins'.2.2 k _ _ f hk2 hk3 hf;rw [e];refine (hL x hx).patch w4 w1 (w2.map_rc fun p u f' hp _ hr=>hmove (w3 p hp) (hro.imp id fun k=>k.2 _ (List.mem_of_getElem? hk2) p hp) hr _ _ rfl hMutM0) (hkept.win x.ws (List.mem_of_getElem? hk3)) (fun g hg => ?_) hheap (fun g hg hn hm=>hn (hM0 g hg (hMutM0 g hm))) hX rfl rfl;have hgo:g∈Own X F x.id:=by rw [hOwnL x hx];rcases lma.1 hg with k|k<;>simp [k]
    refine hkept.old g (h.lt g ⟨x.id,x.B,hLid x hx,hgo⟩) (fun hgf => ?_) fun y hy e => ?_
    ·obtain ⟨_,z2,z3⟩:=hfpz x hx g hgf;exact (lma.1 hg).elim z2 z3
    ·obtain ⟨y,hyL,rfl⟩:=List.mem_map.1 hy;have e':y.z.1=g:=e;by_cases hid:y.id=x.id
     ·have:=hLeq y hyL x hx hid;subst this;have n1:=(List.nodup_cons.1 (hndL y hx)).1;exact n1 (by rw [e'];rcases lma.1 hg with k|k<;>simp [k])
     ·exact h.dj y.id x.id y.B x.B (hLid y hyL) (hLid x hx) hid g (e'▸hwsz y hyL) hgo
   ·rw [e4];refine (h.blk i B e3).frame (fun g hg => ?_) hheap (fun g hg hn hm=>hn (hM0 g hg (hMutM0 g hm))) hX rfl rfl;refine hkept.old g (h.lt g ⟨i,B,e3,hg⟩) (hfpNot i B e3 e2 e1 g hg) fun y hy e => ?_
    obtain ⟨y,hyL,rfl⟩:=List.mem_map.1 hy;have e':y.z.1=g:=e;exact h.dj y.id i y.B B (hLid y hyL) e3 (fun e=>e1 (List.mem_map.2 ⟨y,hyL,e⟩)) g (e'▸hwsz y hyL) hg
  ·rcases cases1 i B hi with ⟨k,x,f,hk,hf,rfl,rfl,e⟩|⟨e1,e2,e3,e4⟩
   ·have hx:=List.mem_of_getElem? hk;rw [own1 k x f hk hf];obtain ⟨n1,n2⟩:=List.nodup_cons.1 (hndL x hx);have n3:=List.nodup_append.1 n2;have n4:=List.nodup_append.1 n3.1;have hfx:∀ g∈f,g≠x.z.1∧g∉x.f1∧g∉x.f3:=by
     intro g hg;have hgl:=lma.2 (.inr (hinf k f hf g hg):g∈rf.flatten∨g∈fw.flatten);rcases (hg' g hgl).1 with k1|k1
     ·exact hfpz x hx g k1
     ·have hl:∀ g∈Own X F x.id,g<w.heap.size:=fun g hg=>h.lt g ⟨x.id,x.B,hLid x hx,hg⟩
      refine ⟨fun e => ?_,fun e => ?_,fun e => ?_⟩
      ·have:=hl g (by rw [hOwnL x hx];simp [e]);omega
      ·have:=hl g (by rw [hOwnL x hx];simp [e]);omega
      ·have:=hl g (by rw [hOwnL x hx];simp [e]);omega
    refine List.nodup_cons.2 ⟨fun hz => ?_,List.nodup_append.2 ⟨List.nodup_append.2 ⟨n4.1,hfwf.1 f (List.mem_of_getElem? hf),fun g hg g2 hg2 e => ?_⟩,n3.2.1,fun g hg g2 hg2 e => ?_⟩⟩
    ·rcases lma.1 hz with hz|hz
     ·rcases lma.1 hz with hz|hz
      ·exact n1 (by simp [hz])
      ·exact (hfx _ hz).1 rfl
     ·exact n1 (by simp [hz])
    ·subst e;exact (hfx g hg2).2.1 hg
    ·subst e;rcases lma.1 hg with hg|hg
     ·exact n3.2.2 g (by simp [hg]) g hg2 rfl
     ·exact (hfx g hg).2.2 hg2
   ·rw [own2 i e4];exact h.nd i B e3
  ·rcases P1 i B hi g hg with ⟨⟨B0,hB0⟩,k1,k2,k3⟩|⟨k,x,f,hk,hf,rfl,hgf⟩<;>rcases P1 j B' hj g hg2 with ⟨⟨B1,hB1⟩,m1,m2,m3⟩|⟨k',x',f',hk',hf',rfl,hgf'⟩
   ·exact h.dj i j B0 B1 hB0 hB1 hij g k1 m1
   ·exact k2 (hfnew g (lma.2 (.inr (hinf k' f' hf' g hgf'))) i B0 hB0 k1)
   ·exact m2 (hfnew g (lma.2 (.inr (hinf k f hf g hgf))) j B1 hB1 m1)
   ·refine hfwf.2 k k' f f' hf hf' (fun e => ?_) g hgf hgf';subst e;rw [hk] at hk';injection hk' with hk';subst hk';exact hij rfl
  ·obtain ⟨B,hB,m1,m2,m3⟩:=h.win i y hy;by_cases e1:i∈L.map (·.id)
   ·obtain ⟨x,hx,rfl⟩:=List.mem_map.1 e1;rw [hLid x hx] at hB;injection hB with hB;subst hB
    exact ⟨x.B',hH1 x hx,m1,m2,m3⟩
   ·by_cases e2:i∈tk
    ·obtain ⟨B',hB',hkd'⟩:=htl i e2;rw [hB] at hB';injection hB' with hB';subst hB';omega
    ·exact ⟨B,by rw [hH3 i e1 e2];exact hB,m1,m2,m3⟩
 obtain ⟨X2,F2,hs2,hX2,hN2,hl2,hv2,hM2⟩:=SimW.adoptRs (res:=res) (us:=us) (rf:=rf) hs1 (b:=b) (Xc:=X0 X.τ M0) (M:=M0) (fun j y u f e1 e2 e3=>by
   obtain ⟨k1,k2⟩:=hres'.2.2 j y u f e1 e2 e3;refine ⟨?_,k2⟩;have hl:∀ p∈y.cs,ln=[]∨NoRo p:=fun p hp=>hro.imp id fun k=>k.1 y (List.mem_of_getElem? e1) p hp
   cases y with
   | one p=>exact hmove (k2 p (by simp [R1.cs])) (hl p (by simp [R1.cs])) k1 _ _ rfl fun _ k=>k
   | agg l =>
    obtain ⟨xs,q1,q2⟩:=k1;exact ⟨xs,q1,q2.map_rc fun p u f' hp _ hr=>hmove (k2 p hp) (hl p hp) hr _ _ rfl fun _ k=>k⟩) hres'.1 hres'.2.1 rfl
  (fun y hy=>by
   have hf0:=hfr y hy;show (setSlots σ wl).slot y.1=_;rw [setSlots_not,hf0];rw [hwlk];rintro (e|e)
   ·obtain ⟨x,hx,e⟩:=List.mem_map.1 e;have:=hLid x hx;rw [h.hH,e,hf0] at this;cases this
   ·obtain ⟨B,hB,_⟩:=htl _ e;rw [h.hH,hf0] at hB;cases hB)
  (fun g hg=>.inr (lma.2 (.inl hg))) (fun g _ hn=>⟨hn,fun hm=>hn (hMutM0 g (.inr hm))⟩) hnd2.1 (fun g hg ⟨i,B,hi,hgo⟩=>by
   rcases P1 i B hi g hgo with ⟨⟨B0,hB0⟩,k1,k2,k3⟩|⟨k,x,f,hk,hf,rfl,hgf⟩
   ·exact k2 (hfnew g (lma.2 (.inl hg)) i B0 hB0 k1)
   ·exact hnd2.2.2 g hg g (hinf k f hf g hgf) rfl) (fun g hg=>by
   rcases (hg' g (lma.2 (.inl hg))).1 with k|k
   ·exact hfpsrc g k
   ·exact .inr (Nat.le_trans h.kept.size k))
 have hs3:=hs2.reN X.N h.hN (fun g _ hg=>.inl (by rw [hN2];exact .inl ⟨.inl hg,hXfp g hg⟩));have hfin:∀ g,Mut (X2.withN X.N) F2 g→M0 g:=by
  rintro g (hg|hg)
  ·exact .inl ⟨.inl hg,hXfp g hg⟩
  ·rcases (hM2 g).1 hg with k|k
   ·exact hMutM0 g (.inr k)
   ·exact .inr (lma.2 (.inl k))
 have hvr:∀ (j:Nat) (y:R1) (v:Value),(thawRs b res).1[j]? = some y→us[j]? = some v→R1R w' (Mut (X2.withN X.N) F2) (X2.withN X.N) y v []:=fun j y v e1 e2 =>
  (hv2 (Mut (X2.withN X.N) F2) (fun g _ hn hm=>hn (hfin g hm)) j y v e1 e2).frame (by simp) (fun _ _ _=>rfl) (fun _ _ k=>k) (Le_withN X2 X.N)
 refine hnext u w' (X2.withN X.N) F2 ?_ ?_
 ·show SimW G _ _ (setSlots σ (L.map WI.wr++(deads tk++(thawRs b res).2))) _ _;rw [← List.append_assoc,setSlots_append];exact hs3
 ·show RVR _ _ _ (resRV (thawRs b res).1) u;rw [hu]
  revert hl2 hvr
  generalize (thawRs b res).1=ys;intro hl2 hvr
  match ys,us,hl2 with
  | [y],[v],_=>exact hvr 0 y v rfl rfl
  | [],[],_=>exact ⟨[],rfl,rfl,by simp⟩
  | y::y'::ys,v::v'::us,hl2=>exact ⟨v::v'::us,rfl,by simpa using hl2,hvr⟩
theorem All2.map_ix {ops:List Operand} {is:List Ix} (h:SimW G X F σ (a::acts) w) (k:All2 (fun x y=>ixOk x y=true) ops is):All2 (fun u y=>RVR w (Mut X F) X y u) (ops.map a.eval) (is.map σ.ev):=by
 induction k with
 | nil=>exact .nil
 | cons hx t ih=>exact .cons (h.ev hx) ih
theorem sound_call (h:SimW G X F σ (a::acts) w) {c:Call} {f:FuncId} {is:List Ix} {b:Nat} {K:Eff→Prop} (ho:o.op=.call c) (hc:c.callee=.value (.func f)) (hix:All2 (fun x y=>ixOk x y=true) c.args.toList is)
  (hk:callK P σ b f (is.map σ.ev) K):∃ E,K E∧OpS P G σ acts a o w E:=by
 have h2:=h.reN G.N (fun _ hg=>hg) fun g _ hg=>.inl (h.hN g hg)
 refine sound_call' (us0:=c.args.toList.map a.eval) h2 rfl (fun hE => ?_) (hix.map_ix h2) hk;rw [run_call ho hc hE,←Array.toList_map]
theorem All2.append' {α β:Type} {R:α→β→Prop} {l l':List α} {m m':List β} (h:All2 R l m) (k:All2 R l' m'):All2 R (l++l') (m++m'):=by
 induction h with
 | nil=>exact k
 | cons hh t ih=>exact .cons hh ih
theorem All2.of_get {α β:Type} {R:α→β→Prop}:∀ {l:List α} {m:List β},l.length=m.length→(∀ (i:Nat) (a:α) (b:β),l[i]? = some a→m[i]? = some b→R a b)→All2 R l m
 | [],[],_,_=>.nil
 | [],_::_,h,_=>by simp at h
 | _::_,[],h,_=>by simp at h
 | a::l,b::m,h,k=>.cons (k 0 a b rfl rfl) (All2.of_get (by simpa using h) fun i x y hx hy=>k (i+1) x y (by simpa using hx) (by simpa using hy))
theorem sound_clo (h:SimW G X F σ (a::acts) w) {c:Call} {t:Tmp} {f:FuncId} {l:List PV} {is:List Ix} {b:Nat} {K:Eff→Prop} (ho:o.op=.call c) (hc:c.callee=.value (.tmp t)) (hix:All2 (fun x y=>ixOk x y=true) c.args.toList is)
  (ht:σ.ev1 (.t t)=.fn f l) (hk:callK P σ b f (is.map σ.ev++l.map fun p=>.r (.one p)) K):∃ E,K E∧OpS P G σ acts a o w E:=by
 have h2:=h.reN G.N (fun _ hg=>hg) fun g _ hg=>.inl (h.hN g hg)
 have hv:=h2.ev1 (x:=.tmp t) (y:=.t t) (by simp [ixOk]) (by rw [ht];simp);rw [ht] at hv;generalize hu:a.eval (.tmp t)=u at hv;cases hv with
 | fn hl hcc =>
  rename_i xs;refine sound_call' (us0:=c.args.toList.map a.eval++xs) h2 rfl (fun hE => ?_) (All2.append' (hix.map_ix h2) ?_) hk
  ·rw [run_clo ho hc hu hE];simp
  ·refine All2.of_get (by simpa using hl.symm) fun i u y hu hy => ?_
   rw [List.getElem?_map] at hy;obtain ⟨p,hp,rfl⟩:=Option.map_eq_some_iff.1 hy;exact hcc i p u hp hu
end
def allV:List Arg→Bool
 | []=>true
 | .v _::r=>allV r
 | _=>false
def ConB (P:Program) (f:FuncId) (args:List Arg) (c:List PV):Prop :=
 Enters P f∧∀ (w:World) (τ:Nat→Value) (N:Nat→Prop) (us:List Value),ArgsR w N τ args us [] [] []→(∀ g,N g→g<w.heap.size) →
  Calls P f us.toArray w fun e w'=>∃ (z:Nat×Nat) (vs:List Value),e=.returned (.pointer (some (baseOf z)))∧Kept w w' (·∈([]:List Nat)) []∧CellsAt w' z vs∧RCs w' (fun g=>N g∨g=z.1) (X0 τ N) c vs []∧w.heap.size≤z.1∧z.1<w'.heap.size
def boxK (P:Program) (σ:St) (b:Nat) (f:FuncId) (is:List RV) (K:Eff→Prop):Prop :=
 ∃ args c,ConB P f args c∧allV args=true∧callPrep σ is args fun tk ln wr=>tk=[]∧ln=[]∧wr=[]∧σ.slot b=.fresh∧(∀ p∈c,NoRef p) ∧
  K { v:=.r (.one (.ptr b 1 0 0)),wh:=[(b,.live ⟨1,c.length,[],[c]⟩)] }
section
variable {P:Program} {G:Fr} {X X':Ctx} {F F':Nat→List Nat} {σ σ':St} {a:Act} {acts:List Act} {w w':World} {M M' N:Nat→Prop} {τ:Nat→Value} {o:Oper}
theorem ArgsR.allV {args:List Arg} {us:List Value} {fo fw:List (List Nat)} {ws:List (Nat×Nat×Nat)} (h:ArgsR w N τ args us fo fw ws) (k:allV args=true):fo=[]∧fw=[]∧ws=[]:=by
 induction h with
 | nil=>exact ⟨rfl,rfl,rfl⟩
 | v _ _ _ ih=>exact ih k
 | o=>cases k
 | w=>cases k
theorem sound_box' (h:SimW G X F σ (a::acts) w) (hXN:X.N=G.N) {f:FuncId} {is:List RV} {us0:List Value} {b:Nat} {K:Eff→Prop} (hrun:Enters P f→(execOp a.eval o).run P w=.ok (.enter f us0.toArray) w) (hix:All2 (fun u y=>RVR w (Mut X F) X y u) us0 is)
  (hk:boxK P σ b f is K):∃ E,K E∧OpS P G σ acts a o w E:=by
 obtain ⟨args,c,⟨hE,hcon⟩,hall,hp⟩:=hk;obtain ⟨tk,ln,L,⟨rfl,rfl,hwr,hfr,hn,hK⟩,hL,hLw,htk,harg⟩:=h.prep_ok rfl hix hp;refine ⟨_,hK,?_⟩;obtain ⟨fo,hA,hfo,hfoO⟩:=harg (Mut X F) (fun g _ hg hn=>hg hn) (fun i hi=>by cases hi) (by simp);obtain ⟨rfl,h2,h3⟩:=hA.allV hall;rw [h2,h3] at hA;have hb:X.H b=.fresh:=by rw [h.hH];exact hfr
 have hMlt:∀ g,Mut X F g→g<w.heap.size:=by
  rintro g (k|k)
  ·rw [hXN] at k;exact Nat.lt_of_lt_of_le (h.gok.2 g k) h.kept.size
  ·exact h.lt g k
 intro next Q hnext
 unfold Oper.wp;rw [hrun hE];show Calls P f us0.toArray w _;refine Calls.mono (hcon w X.τ (Mut X F) _ hA hMlt) fun e w' hpost => ?_
 obtain ⟨z,vs,rfl,hkept,hat,hrc,hz1,hz2⟩:=hpost;show next (a.put o.dst (.pointer (some (baseOf z)))) w'
 let B:Blk:=⟨1,c.length,[],[c]⟩
 have hold:∀ g,g<w.heap.size→w'.heap[g]? = w.heap[g]? := fun g hg=>hkept.old g hg (by simp) (by simp)
 have hs:=h.one (w':=w') b (.live B) (some z) 0 [] (by simp) (fun B' _=>.inl hb) (fun B' e g hg=>by
   simp at hg;subst hg;exact ⟨hz2,.inr hz1⟩) (fun B' e=>by simp) hkept.size (fun g hg _=>hold g hg) (Kept.call (fp:=[]) (ws:=[]) h.kept hkept (by simp) (by simp) (by simp) (by simp))
  (fun B' e hX hM=>by
   injection e with e;subst e;have hMz:∀ g,Mut (X.upd b (.live B) (some z) 0) (upd F b []) g→Mut X F g∨g=z.1:=by
    rintro g (k|k)
    ·exact .inl (.inl k)
    ·rcases Mut_upd k with ⟨B2,_,hg⟩|⟨i,B2,_,hi,hg⟩
     ·simp at hg;exact .inr hg
     ·exact .inl (.inr ⟨i,B2,hi,hg⟩)
   refine ⟨by simp [B],vs,?_,.inr ⟨by simp [B],z,by simp [Ctx.upd,upd_same],rfl,hat⟩⟩;have e0:B.l.flatten=c:=by simp [B]
   rw [e0];exact hrc.map_rc fun p u f hp hf hr=>hr.move (hn p hp) (fun _ _=>rfl) (fun _ _ _=>rfl) (fun g _ hng hm=>hng ((hMz g hm).imp id id)) rfl)
  (fun x hx=>(h.not_win hb x hx).elim)
 exact hnext _ w' _ _ hs (newPtr (B:=B) rfl _ _)
end
def bslT (σ:St) (b k:Nat) (zs:List PV) (ps:List (Nat×Ix)) (K:Eff→Prop):Prop :=
 effK σ b (.bsl k 1 zs ps) fun E=>∃ kids c,E={ v:=.r (.one (.ref b 0 1 1)),wh:=[(b,.live ⟨0,k,kids,[c]⟩)] }∧(∀ y∈(thaw (b+1) c).2,σ.slot y.1=.fresh∧y.1≠b) ∧
  K { v:=.r (.one (.ref b 0 1 1)),wh:=(b,.live ⟨0,k,[],[(thaw (b+1) c).1]⟩)::(thaw (b+1) c).2 }
def opK (P:Program) (σ:St) (b:Nat) (k:AK) (K:Eff→Prop):Prop :=
 match k with
 | .call f l=>callK P σ b f (l.map σ.ev) K∨boxK P σ b f (l.map σ.ev) K
 | .clo x l=>match σ.ev1 x with
  | .fn f m=>callK P σ b f (l.map σ.ev++m.map fun p=>.r (.one p)) K
  | _=>False
 | .bsl k n zs ps=>effK σ b (.bsl k n zs ps) K∨(n=1∧bslT σ b k zs ps K)
 | k=>effK σ b k K
def St.putO (σ:St) (d:Option Nat) (v:RV):St :=
 match d with
 | some t=>σ.put t v
 | none=>σ
def regsI:Nat→List RV→List (Nat×RV)
 | _,[]=>[]
 | i,v::r=>(i,v)::regsI (i+1) r
def enterI (n:Nat) (is:List RV) (σ:St):St:=⟨⟨n,regsI 0 is⟩,σ.env::σ.sus,σ.H⟩
def cellI:PV→Option PV
 | .vs true k []=>some (.vs false k [])
 | .vs true _ (_::_)=>none
 | p=>some p
def cellsI:List PV→Option (List PV)
 | []=>some []
 | p::r=>match cellI p,cellsI r with
  | some q,some s=>some (q::s)
  | _,_=>none
def resI1 (σ:St):Rk→Option R1
 | .t n=>match σ.reg n with
  | .r x=>some x
  | _=>none
 | .c n k=>match σ.ev1 (.t n) with
  | .ptr id 1 0 0=>match σ.slot id with
   | .live ⟨_,_,_,[c]⟩=>if c.length=k.getD 1 then match cellsI c with
    | some qs=>some (mkR k qs)
    | none=>none else none
   | _=>none
  | _=>none
def resI (σ:St):List Rk→Option (List R1)
 | []=>some []
 | x::r=>match resI1 σ x,resI σ r with
  | some y,some s=>some (y::s)
  | _,_=>none
def inlK (P:Program) (σ:St) (f:FuncId) (is:List RV) (K:St→RV→Prop):Prop :=
 ∃ fn c rv rs, P.funcs[f]? = some fn ∧ (fn.name == "runtime.NumGoroutine") = false ∧ fn.body = some c ∧ fn.results = rv.toArray ∧ cRess P rv = some rs ∧ is.length ≤ fn.ntmps ∧
  ∀ G acts,T P G acts c (enterI fn.ntmps is σ) fun e σ'=>(e=.normal∨e=.ret)∧σ'.sus=σ.env::σ.sus∧∃ r,resI σ' rs=some r∧K ⟨σ.env,σ.sus,σ'.H⟩ (resRV r)
def stepK (P:Program) (σ:St) (b:Nat) (x:AOp) (K:St→Prop):Prop :=
 match x.g with
 | none=>(opK P σ b x.k fun E=>K (σ.app x.d E))∨∃ f l,x.k=.call f l∧inlK P σ f (l.map σ.ev) fun σ' v=>K (σ'.putO x.d v)
 | some (d,t)=>match σ.reg d with
  | .r (.one (.b v))=>(v=t→(opK P σ b x.k fun E=>K (σ.app x.d E))∨∃ f l,x.k=.call f l∧inlK P σ f (l.map σ.ev) fun σ' v=>K (σ'.putO x.d v))∧(v≠t→K (σ.putO x.d (.tup [])))
  | .tup []=>K (σ.putO x.d (.tup []))
  | _=>False
def regK (P:Program):List AOp→St→(St→Prop)→Prop
 | [],σ,K=>K σ
 | x::r,σ,K=>stepK P σ σ.H.length x fun σ'=>regK P r σ' K
def okDst (n:Nat):Option Nat→Bool
 | some d=>decide (d<n)
 | none=>true
def cop (P:Program) (ops:Array Oper) (n:Nat) (o:Oper):Option AOp :=
 match comp P o with
 | some k=>if okDst n o.dst then (match o.guard with
  | none=>some ⟨o.dst,none,k⟩
  | some (j,t)=>match (ops[j]?).bind (·.dst) with
   | some d=>some ⟨o.dst,some (d,t),k⟩
   | none=>none) else none
 | none=>none
def cops (P:Program) (ops:Array Oper) (n:Nat):List Oper→Option (List AOp)
 | []=>some []
 | o::r=>match cop P ops n o,cops P ops n r with
  | some x,some xs=>some (x::xs)
  | _,_=>none
section
variable {P:Program} {G:Fr} {X X':Ctx} {F F':Nat→List Nat} {σ σ':St} {a:Act} {acts:List Act} {w w':World} {M M' N:Nat→Prop} {τ:Nat→Value} {o:Oper}
theorem comp_call {f:FuncId} {l:List Ix} (hc:comp P o=some (.call f l)):∃ c,o.op=.call c∧c.callee=.value (.func f)∧cIxsT P c.argTypes.toList c.args.toList=some l:=by
 unfold comp at hc;split at hc
 case h_21 =>
  rename_i c ho;refine ⟨c,ho,?_⟩;unfold compCall at hc;split at hc
  case h_6 =>
   rename_i f' e;obtain ⟨m,hm,he⟩:=map_inv hc;injection he with e1 e2;subst e1 e2;exact ⟨e,hm⟩
  all_goals (first|(simp at hc;done)|(unfold compLen at hc;repeat' (split at hc))|(unfold compApp at hc;repeat' (split at hc))|(unfold compCopy at hc;repeat' (split at hc))|(unfold compTwo at hc;repeat' (split at hc)))
  all_goals (simp at hc;done)
 all_goals (first|(simp at hc;done)|(repeat' (split at hc)))
 all_goals (simp at hc;done)
theorem comp_clo {x:Ix} {l:List Ix} (hc:comp P o=some (.clo x l)):∃ c t,o.op=.call c∧c.callee=.value (.tmp t)∧x=.t t∧cIxsT P c.argTypes.toList c.args.toList=some l:=by
 unfold comp at hc;split at hc
 case h_21 =>
  rename_i c ho;refine ⟨c,?_⟩;unfold compCall at hc;split at hc
  case h_7 =>
   rename_i t e;obtain ⟨m,hm,he⟩:=map_inv hc;injection he with e1 e2;subst e1 e2;exact ⟨t,ho,e,rfl,hm⟩
  all_goals (first|(simp at hc;done)|(unfold compLen at hc;repeat' (split at hc))|(unfold compApp at hc;repeat' (split at hc))|(unfold compCopy at hc;repeat' (split at hc))|(unfold compTwo at hc;repeat' (split at hc)))
  all_goals (simp at hc;done)
 all_goals (first|(simp at hc;done)|(repeat' (split at hc)))
 all_goals (simp at hc;done)
theorem setAt_twice:∀ (l:List Slot) (i:Nat) (x y:Slot),setAt (setAt l i x) i y=setAt l i y
 | [],0,x,y=>rfl
 | [],i+1,x,y=>by simp [setAt,setAt_twice [] i]
 | s::l,0,x,y=>rfl
 | s::l,i+1,x,y=>by simp [setAt,setAt_twice l i]
theorem sound_bslT (h:SimW G X F σ (a::acts) w) {b k:Nat} {zs:List PV} {ps:List (Nat×Ix)} {K:Eff→Prop} (hc:comp P o=some (.bsl k 1 zs ps)) (hk:bslT σ b k zs ps K):∃ E,K E∧OpS P G σ acts a o w E:=by
 obtain ⟨E,⟨kids,c,rfl,hf,hK⟩,v,w',hr,X1,F1,hs,hv⟩:=sound_comp h hc rfl hk;refine ⟨_,hK,Outs.opS ?_⟩
 let B:Blk:=⟨0,k,kids,[c]⟩
 have hs':SimW G X1 F1 (σ.setSlot b (.live B)) (a::acts) w':=hs;obtain ⟨X2,F2,h2,hX,hM,_⟩:=hs'.exposeAll c (id:=b) (e:=0) (j:=0) (b:=b+1) (B:=B) (c:=c) (by rw [St.slot_setSlot,if_pos rfl]) rfl (by simp) (fun y hy=>by rw [St.slot_setSlot,if_neg (hf y hy).2];exact (hf y hy).1) [];refine ⟨v,w',hr,X2,F2,?_,hv.frame (fun _ _ _=>rfl) (fun g _ hn hm=>hn (hM g hm)) hX⟩
 ·have e1:splice c 0 (thaw (b+1) c).1=(thaw (b+1) c).1:=by simp [splice,thaw_len]
  have e2:(σ.setSlot b (.live B)).setSlot b (.live ⟨0,k,[],[(thaw (b+1) c).1]⟩)=σ.setSlot b (.live ⟨0,k,[],[(thaw (b+1) c).1]⟩):=by simp [St.setSlot,setAt_twice]
  simp only [setSlots,B,List.set_cons_zero,e1] at h2 ⊢;rw [e2] at h2;exact h2
theorem sound_op (h:SimW G X F σ (a::acts) w) {k:AK} {b:Nat} {K:Eff→Prop} (hc:comp P o=some k) (hk:opK P σ b k K):∃ E,K E∧OpS P G σ acts a o w E:=by
 cases hown:k.own with
 | true =>
  have he:effK σ b k K∨∃ k' zs ps,k=.bsl k' 1 zs ps∧bslT σ b k' zs ps K:=by
   cases k with
   | bsl k' n zs ps =>
    rcases hk with hk|⟨rfl,hk⟩
    ·exact .inl hk
    ·exact .inr ⟨_,_,_,rfl,hk⟩
   | _=>first|exact .inl hk|cases hown
  rcases he with he|⟨k',zs,ps,rfl,he⟩
  ·obtain ⟨E,h1,h2⟩:=sound_comp h hc hown he;exact ⟨E,h1,h2.opS⟩
  ·exact sound_bslT h hc he
 | false =>
  cases k with
  | call f l =>
   have:∃ c,o.op=.call c∧c.callee=.value (.func f)∧cIxsT P c.argTypes.toList c.args.toList=some l:=by
    exact comp_call hc
   obtain ⟨c,ho,e1,e2⟩:=this;rcases hk with hk|hk
   ·exact sound_call h ho e1 (cIxsT_ok e2) hk
   ·have h2:=h.reN G.N (fun _ hg=>hg) fun g _ hg=>.inl (h.hN g hg)
    refine sound_box' (us0:=c.args.toList.map a.eval) h2 rfl (fun hE => ?_) ((cIxsT_ok e2).map_ix h2) hk;rw [run_call ho e1 hE,←Array.toList_map]
  | clo x l =>
   obtain ⟨c,t,ho,e1,rfl,e2⟩:=comp_clo hc;simp only [opK] at hk;split at hk
   ·rename_i f m hm;exact sound_clo h ho e1 (cIxsT_ok e2) hm hk
   ·exact hk.elim
  | _=>cases hown
theorem SimW.put (h:SimW G X F σ (a::acts) w) {d:Nat} {v:RV} {u:Value} (hv:RVR w (Mut X F) X v u) (hd:d<σ.env.n):SimW G X F (σ.put d v) (a.put (some d) u::acts) w where
 hH:=h.hH
 hτ:=h.hτ
 hN:=h.hN
 gok:=h.gok
 envs:=by
  cases h.envs with
  | cons e t =>
   refine .cons ⟨e.defers,by simpa [Act.put,St.put] using e.size,fun s => ?_⟩ t;have hs:=e.size;by_cases hsd:s=d
   ·subst hsd;have:(a.put (some s) u).tmps.getD s undef=u:=by
     simp only [Act.put,Array.getD_eq_getD_getElem?];rw [Array.getElem?_setIfInBounds_self_of_lt (by rw [hs];exact hd)];rfl
    rw [this];show RVR w (Mut X F) X (look ((s,v)::σ.env.l) s) u;simpa [look] using hv
   ·have:(a.put (some d) u).tmps.getD s undef=a.tmps.getD s undef:=by
     simp only [Act.put,Array.getD_eq_getD_getElem?];rw [Array.getElem?_setIfInBounds_ne (fun e=>hsd e.symm)]
    rw [this];show RVR w (Mut X F) X (look ((d,v)::σ.env.l) s) _;simp only [look,if_neg hsd];exact e.reg s
 blk:=h.blk
 nd:=h.nd
 dj:=h.dj
 lt:=h.lt
 src:=h.src
 kept:=h.kept
 win:=h.win
theorem SimW.putO (h:SimW G X F σ (a::acts) w) {d:Option Nat} {v:RV} {u:Value} (hv:RVR w (Mut X F) X v u) (hd:okDst σ.env.n d=true):SimW G X F (σ.putO d v) (a.put d u::acts) w:=by
 cases d with
 | none=>exact h
 | some d=>exact h.put hv (by simpa [okDst] using hd)
theorem app_eq (σ:St) (d:Option Nat) (E:Eff):σ.app d E=(setSlots σ E.wh).putO d E.v:=by cases d<;>rfl
theorem setSlots_n (l:List (Nat×Slot)) (σ:St):(setSlots σ l).env.n=σ.env.n:=by rw [(setSlots_env l σ).1]
theorem putO_n (σ:St) (d:Option Nat) (v:RV):(σ.putO d v).env.n=σ.env.n:=by cases d<;>rfl
theorem app_n (σ:St) (d:Option Nat) (E:Eff):(σ.app d E).env.n=σ.env.n:=by rw [app_eq,putO_n,setSlots_n]
theorem yielded_of {ops:Array Oper} {j d:Nat} (hj:(ops[j]?).bind (·.dst)=some d) (tmps:Array Value):yielded ops tmps j=(match tmps.getD d undef with|.bool v=>some v|_=>none):=by
 unfold yielded;rw [hj];simp only [Option.bind_some,Array.getD_eq_getD_getElem?];cases tmps[d]? with
 | none=>rfl
 | some v=>cases v<;>rfl
theorem look_regsI:∀ (is:List RV) (i t:Nat),look (regsI i is) (i+t)=(is[t]?).getD .un
 | [],i,t=>by simp [regsI,look]
 | v::r,i,0=>by simp [regsI,look]
 | v::r,i,t+1=>by
  simp only [regsI,look];rw [if_neg (by omega),show i+(t+1)=i+1+t by omega,look_regsI r (i+1) t];simp
theorem RC.cellI {p q:PV} {v:Value} {f:List Nat} (h:RC w M X p v f) (hq:cellI p=some q):RC w M X q v []:=by
 have h0:=h;cases h with
 | @own k l v xs fps e hr hk hl hf hc =>
  cases l with
  | nil =>
   simp only [AS.cellI,osi] at hq;subst hq;obtain ⟨A,c,hv,hc⟩:=h0.vs_slice;rw [hv];exact RC.ro (l:=[]) (xs:=[]) (by simp) (by simp) rfl (by simp) (by simp)
  | cons c l=>simp [AS.cellI] at hq
 | _=>simp only [AS.cellI,osi] at hq;subst hq;exact h0
theorem cellsI_len:∀ {ps qs:List PV},cellsI ps=some qs→qs.length=ps.length
 | [],qs,h=>by simp [cellsI] at h;subst h;rfl
 | p::ps,qs,h=>by
  simp only [cellsI] at h;split at h
  ·rename_i q s h1 h2;injection h with h;subst h;simp [cellsI_len h2]
  ·cases h
theorem RCs.cellsI:∀ {ps qs:List PV} {us:List Value} {f:List Nat},RCs w M X ps us f→cellsI ps=some qs→RCs w M X qs us []
 | [],qs,us,f,hr,h=>by
  simp [AS.cellsI] at h;subst h;have:us=[]:=List.eq_nil_of_length_eq_zero hr.1.symm;subst this;exact RCs.nil
 | p::ps,qs,us,f,hr,h=>by
  obtain ⟨hl',fps,hfl,rfl,hc⟩:=hr;cases us with
  | nil=>simp at hl'
  | cons u us =>
  cases fps with
  | nil=>simp at hfl
  | cons f fps =>
  simp only [AS.cellsI] at h;split at h
  ·rename_i q s h1 h2;injection h with h;subst h;have k1:=(hc 0 p u f rfl rfl rfl).cellI h1;have hr':RCs w M X ps us fps.flatten:=⟨by simpa using hl',fps,by simpa using hfl,rfl,fun j q v g hq hv hg=>hc (j+1) q v g (by simpa using hq) (by simpa using hv) (by simpa using hg)⟩
   have:=RCs.cons k1 (RCs.cellsI hr' h2);simpa using this
  ·cases h
theorem SimW.resI1_ok (h:SimW G X F σ (a::acts) w) {v:ResultVar} {y:Rk} {x:R1} (h1:cRes P v=some y) (hr:resI1 σ y=some x):∃ u,resRun P a.tmps w v u∧R1R w (Mut X F) X x u []:=by
 cases v with
 | tmp t =>
  simp [cRes] at h1;subst h1;simp only [resI1] at hr;split at hr
  ·rename_i x' hx;injection hr with hr;subst hr;have hrx:=h.reg t;rw [hx] at hrx;exact ⟨_,rfl,hrx⟩
  ·cases hr
 | cell ad ty =>
  simp only [cRes] at h1;split at h1
  case h_2=>cases h1
  rename_i d inf hd hi;have hy:∃ k,y=.c ad k∧((descAgg d=true∧k=some inf.size)∨(descAgg d=false∧k=none)):=by
   split at h1<;>rename_i hda<;>simp only [osi] at h1<;>subst h1
   ·exact ⟨_,rfl,.inl ⟨hda,rfl⟩⟩
   ·exact ⟨_,rfl,.inr ⟨by simpa using hda,rfl⟩⟩
  obtain ⟨k,rfl,hk⟩:=hy;simp only [resI1] at hr;split at hr
  ·rename_i id hp;split at hr
   ·rename_i kd kk kids c hs;split at hr
    ·rename_i hlen;split at hr
     ·rename_i qs ht;injection hr with hr;subst hr;have hidL:X.H id=.live ⟨kd,kk,kids,[c]⟩:=by rw [h.hH];exact hs
      obtain ⟨_,z,hz,hv,_⟩:=h.at_ptr (x:=.tmp ad) (y:=.t ad) (by simp [ixOk]) hp hs rfl;have hb:=h.blk id _ hidL;obtain ⟨xs,hcs,hat⟩:=hb.cells z hz;have e0:(([c]:List (List PV))).flatten=c:=by simp
      rw [e0] at hcs;have hxl:xs.length=k.getD 1:=by rw [← hcs.1];exact hlen
      have hq:=hcs.cellsI ht;have hrun:∀ u,(match k with|none=>xs=[u]|some _=>u=.agg xs.toArray)→resRun P a.tmps w (.cell ad ty) u:=by
       intro u hu;have hv':a.tmps.getD ad undef=.pointer (some (baseOf z)):=by
        have:a.eval (.tmp ad)=.pointer (some ((baseOf z).add 0)):=by simpa using hv
        rw [show (baseOf z).add 0=baseOf z by rw [add_baseOf];rfl] at this;exact this
       show Sem.run P (do loadVar ty (← asAddr (a.tmps.getD ad undef))) w=.ok u w;rw [hv'];rcases hk with ⟨hda,rfl⟩|⟨hda,rfl⟩
       ·simp only at hu;subst hu;have:=run_loadCells_list (P:=P) w (baseOf z) xs fun j u hju=>(hat j u hju).1
        rw [show xs.length=inf.size from hxl] at this;simp [asAddr,loadVar,run_isAgg hd,hda,sizeOf,typeInfo,hi,this]
       ·simp only at hu;have hc0:=(hat 0 u (by rw [hu];rfl)).1;rw [show (baseOf z).add 0=baseOf z by rw [add_baseOf];rfl] at hc0;simp [asAddr,loadVar,run_isAgg hd,hda,hc0]
      cases k with
      | some m=>exact ⟨_,hrun _ rfl,xs,rfl,hq⟩
      | none =>
       match xs,hxl with
       | [u],_ =>
        refine ⟨u,hrun u rfl,?_⟩;have hql:qs.length=1:=hq.1
        match qs,hql with
        | [q],_=>exact hq.get_nofp 0 q u rfl rfl
     ·cases hr
    ·cases hr
   ·cases hr
  ·cases hr
theorem SimW.resI_ok (h:SimW G X F σ (a::acts) w):∀ {rv:List ResultVar} {rs:List Rk} {ys:List R1},cRess P rv=some rs→resI σ rs=some ys→∃ us,All2 (resRun P a.tmps w) rv us∧All2 (fun y u=>R1R w (Mut X F) X y u []) ys us
 | [],rs,ys,hc,hr=>by
  simp [cRess] at hc;subst hc;simp [resI] at hr;subst hr;exact ⟨[],.nil,.nil⟩
 | v::rv,rs,ys,hc,hr=>by
  simp only [cRess] at hc;split at hc
  case h_2=>cases hc
  rename_i y s h1 h2;simp only [osi] at hc;subst hc;simp only [resI] at hr;split at hr
  ·rename_i x xs k1 k2;injection hr with hr;subst hr;obtain ⟨u,m1,m2⟩:=h.resI1_ok h1 k1;obtain ⟨us,m3,m4⟩:=h.resI_ok h2 k2;exact ⟨u::us,.cons m1 m3,.cons m2 m4⟩
  ·cases hr
theorem RVR.ofAll2 {ys:List R1} {us:List Value} (h:All2 (fun y u=>R1R w M X y u []) ys us):RVR w M X (resRV ys) (resV us):=by
 have key:∀ {ys:List R1} {us:List Value},All2 (fun y u=>R1R w M X y u []) ys us→ys.length=us.length∧∀ (j:Nat) (y:R1) (u:Value),ys[j]? = some y→us[j]? = some u→R1R w M X y u []:=by
  intro ys us h;induction h with
  | nil=>exact ⟨rfl,by simp⟩
  | cons h t ih =>
   refine ⟨by simp [ih.1],fun j y u e1 e2 => ?_⟩;cases j with
   | zero=>simp at e1 e2;subst e1 e2;exact h
   | succ j=>exact ih.2 j y u (by simpa using e1) (by simpa using e2)
 cases h with
 | nil=>exact ⟨[],rfl,rfl,by simp⟩
 | cons h t =>
  cases t with
  | nil=>exact h
  | cons h2 t=>exact ⟨_,rfl,(key (.cons h (.cons h2 t))).1,(key (.cons h (.cons h2 t))).2⟩
theorem sound_inl (h:SimW G X F σ (a::acts) w) {c:Call} {f:FuncId} {l:List Ix} (ho:o.op=.call c) (hc:c.callee=.value (.func f)) (hix:All2 (fun x y=>ixOk x y=true) c.args.toList l) {K:St→RV→Prop} (hk:inlK P σ f (l.map σ.ev) K)
  {next:Act→World→Prop} {Q:Exit→Act→World→Prop} (hnext:∀ σ' v u w' X' F',K σ' v→σ'.env=σ.env→SimW G X' F' σ' (a::acts) w'→RVR w' (Mut X' F') X' v u→next (a.put o.dst u) w'):o.wp P a w next Q:=by
 obtain ⟨fn,cd,rv,rs,hf,hname,hb,hrs,hrv,hlen,hT⟩:=hk;have hE:Enters P f:=⟨fn,hf,hname,by rw [hb];rfl⟩
 unfold Oper.wp;rw [run_call ho hc hE];show Calls P f (c.args.map a.eval) w _;have hus:=hix.map_ix h;have hl2:∀ {us:List Value} {is:List RV},All2 (fun u y=>RVR w (Mut X F) X y u) us is→us.length=is.length∧∀ t:Nat,RVR w (Mut X F) X ((is[t]?).getD RV.un) ((us[t]?).getD undef):=by
  intro us is h;induction h with
  | nil=>exact ⟨rfl,fun t=>trivial⟩
  | cons h t ih =>
   refine ⟨by simp [ih.1],fun t => ?_⟩;cases t with
   | zero=>exact h
   | succ t=>simpa using ih.2 t
 obtain ⟨hl3,hget⟩:=hl2 hus;have hsz:(c.args.map a.eval).size=(l.map σ.ev).length:=by rw [← hl3];simp
 have hsim:Sim G (enterI fn.ntmps (l.map σ.ev) σ) ({ tmps:=c.args.map a.eval++Array.replicate (fn.ntmps-(c.args.map a.eval).size) undef,defers:=[] }::a::acts) w:=by
  refine ⟨X,F,h.hH,h.hτ,h.hN,h.gok,.cons ⟨rfl,?_,fun t => ?_⟩ h.envs,h.blk,h.nd,h.dj,h.lt,h.src,h.kept,h.win⟩
  ·simp only [Array.size_append,Array.size_replicate];show _=fn.ntmps;omega
  ·have e1:(enterI fn.ntmps (l.map σ.ev) σ).env.get t=((l.map σ.ev)[t]?).getD .un:=by
    have:=look_regsI (l.map σ.ev) 0 t;rw [Nat.zero_add] at this;exact this
   rw [e1];have h2:=hget t;by_cases ht:t<(l.map σ.ev).length
   ·have e2:(c.args.map a.eval++Array.replicate (fn.ntmps-(c.args.map a.eval).size) undef).getD t undef=((c.args.toList.map a.eval)[t]?).getD undef:=by
     rw [Array.getD_eq_getD_getElem?,Array.getElem?_append_left (by omega)];simp
    rw [e2];exact h2
   ·rw [List.getElem?_eq_none (by omega)];trivial
 refine calls_of_wp hf hb (wp_mono (hT G (a::acts) _ _ hsim) fun e a' w' hq => ?_);obtain ⟨σ',⟨he,hsus,r,hres,hK⟩,X',F',hs⟩:=hq;obtain ⟨us,m1,m2⟩:=hs.resI_ok hrv hres;have hdef:a'.defers=[]:=by cases hs.envs with|cons e _=>exact e.defers
 have hs':SimW G X' F' ⟨σ.env,σ.sus,σ'.H⟩ (a::acts) w':=by
  refine ⟨hs.hH,hs.hτ,hs.hN,hs.gok,?_,hs.blk,hs.nd,hs.dj,hs.lt,hs.src,hs.kept,hs.win⟩;have:=hs.envs;rw [hsus] at this;cases this with
  | cons _ t=>exact t
 have hfin:=hnext _ _ _ _ _ _ hK rfl hs' (RVR.ofAll2 m2);rcases he with rfl|rfl
 ·exact ⟨hdef,_,results_of hrs m1,hfin⟩
 ·exact ⟨hdef,_,results_of hrs m1,hfin⟩
theorem step_sound (h:SimW G X F σ (a::acts) w) {ops:Array Oper} {x:AOp} {b n i:Nat} {K:St→Prop} {Q:Exit→Act→World→Prop} {next:Act→World→Prop} (hi:ops[i]? = some o) (hn:σ.env.n=n) (hc:cop P ops n o=some x) (hk:stepK P σ b x K)
  (hnext:∀ σ' a' w',σ'.env.n=n→K σ'→Sim G σ' (a'::acts) w'→next a' w') :
  if Region.wanted o (yielded ops a.tmps) then o.wp P a w next Q∨(o.asks P a w∧LetsOut Q) else next (a.put o.dst undef) w:=by
 unfold cop at hc;split at hc
 case h_2=>cases hc
 rename_i k hk0;split at hc
 case isFalse=>cases hc
 rename_i hd;have hop:opK P σ b k (fun E=>K (σ.app o.dst E))→o.wp P a w next Q:=by
  intro hop;obtain ⟨E,hE,hS⟩:=sound_op h hk0 hop;refine hS next Q fun v w' X1 F1 hs hv=>hnext _ _ _ (by rw [app_n];exact hn) hE ?_
  rw [app_eq];exact ⟨X1,F1,hs.putO hv (by rw [setSlots_n,hn];exact hd)⟩
 have hskip:K (σ.putO o.dst (.tup []))→next (a.put o.dst undef) w:=by
  intro hh;refine hnext _ _ _ (by rw [putO_n];exact hn) hh ⟨X,F,h.putO ⟨[],rfl,rfl,by simp⟩ (by rw [hn];exact hd)⟩
 have hin:(∃ f l,k=.call f l∧inlK P σ f (l.map σ.ev) fun σ' v=>K (σ'.putO o.dst v))→o.wp P a w next Q:=by
  rintro ⟨f,l,hkc,hk⟩;subst hkc;obtain ⟨c,ho,e1,e2⟩:=comp_call hk0;refine sound_inl h ho e1 (cIxsT_ok e2) hk fun σ' v u w' X' F' hK he hs hv => ?_
  refine hnext _ _ _ (by rw [putO_n,he];exact hn) hK ⟨X',F',hs.putO hv (by rw [he,hn];exact hd)⟩
 cases hg:o.guard with
 | none =>
  rw [hg] at hc;simp only [osi] at hc;subst hc;rw [if_pos (by simp [Region.wanted,hg])];rcases hk with hk|hk
  ·exact .inl (hop hk)
  ·exact .inl (hin hk)
 | some jt =>
  obtain ⟨j,t⟩:=jt;rw [hg] at hc;simp only at hc;split at hc
  ·rename_i d hj;simp only [osi] at hc;subst hc;have hr:=h.reg d;have hy:=yielded_of hj a.tmps;unfold stepK at hk;simp only at hk;split at hk
   ·rename_i v hv;rw [hv] at hr;have:a.tmps.getD d undef=.bool v:=RC.b_inv hr;rw [this] at hy;by_cases e:v=t
    ·rw [if_pos (by simp [Region.wanted,hg,hy,e])];rcases hk.1 e with hk|hk
     ·exact .inl (hop hk)
     ·exact .inl (hin hk)
    ·rw [if_neg (by simp [Region.wanted,hg,hy,e])];exact hskip (hk.2 e)
   ·rename_i hv;rw [hv] at hr;obtain ⟨vs,e1,e2,_⟩:=hr;have:a.tmps.getD d undef=.tuple #[]:=by
     rw [e1];have:vs=[]:=List.eq_nil_of_length_eq_zero (by simpa using e2.symm);subst this;rfl
    rw [this] at hy;rw [if_neg (by simp [Region.wanted,hg,hy])];exact hskip hk
   ·exact hk.elim
  ·cases hc
theorem ops_sound {ops:Array Oper} {n:Nat} {Q:Exit→Act→World→Prop}:∀ (rest:List Oper) (i:Nat) {xs:List AOp} {σ:St} {a:Act} {w:World} {K:St→Prop},(∀ j,rest[j]? = ops[i+j]?)→cops P ops n rest=some xs→σ.env.n=n→Sim G σ (a::acts) w→regK P xs σ K →
  (∀ σ' a' w',K σ'→Sim G σ' (a'::acts) w'→Q .normal a' w')→wpOps P ops Q (List.range' i rest.length) a w
 | [],i,xs,σ,a,w,K,hr,hc,hn,hs,hk,hq=>by
  simp [cops] at hc;subst hc;exact hq σ a w hk hs
 | o::rest,i,xs,σ,a,w,K,hr,hc,hn,hs,hk,hq=>by
  simp only [cops] at hc;split at hc
  ·rename_i x xs' h1 h2;simp only [osi] at hc;subst hc;have hi:ops[i]? = some o:=by have:=hr 0;simpa using this.symm
   simp only [List.length_cons,List.range'_succ,wpOps,hi];obtain ⟨X,F,hs⟩:=hs;refine step_sound hs hi hn h1 hk fun σ' a' w' hn' hk' hs' => ?_
   exact ops_sound rest (i+1) (fun j=>by have:=hr (j+1);rw [List.getElem?_cons_succ] at this;rw [this];congr 1;omega) h2 hn' hs' hk' hq
  ·cases hc
end
section
variable {P:Program} {G:Fr} {σ σ':St} {acts:List Act} {Q R:Exit→St→Prop} {x y:Code}
def Wk (G:Fr) (σ σ':St):Prop:=∀ acts w,Sim G σ acts w→Sim G σ' acts w
theorem Wk.refl (σ:St):Wk G σ σ:=fun _ _ h=>h
theorem Wk.trans {σ'':St} (h:Wk G σ σ') (k:Wk G σ' σ''):Wk G σ σ'':=fun a w s=>k a w (h a w s)
theorem T.wk (h:Wk G σ σ') (k:T P G acts x σ' Q):T P G acts x σ Q:=fun a w s=>k a w (h _ _ s)
theorem T.mono (h:T P G acts x σ R) (k:∀ e σ,R e σ→Q e σ):T P G acts x σ Q :=
 fun a w s=>wp_mono (h a w s) fun e a w ⟨σ',hr,hs⟩=>⟨σ',k e σ' hr,hs⟩
theorem T.skip (h:Q .normal σ):T P G acts .skip σ Q:=fun a w s=>wp_skip ⟨σ,h,s⟩
theorem T.ret (h:Q .ret σ):T P G acts .ret σ Q:=fun a w s=>wp_ret ⟨σ,h,s⟩
theorem T.exit {i:Nat} (h:Q (.exit i) σ):T P G acts (.exit i) σ Q:=fun a w s=>wp_exit ⟨σ,h,s⟩
def thn (P:Program) (G:Fr) (acts:List Act) (y:Code) (Q:Exit→St→Prop):Exit→St→Prop
 | .normal,σ=>T P G acts y σ Q
 | e,σ=>Q e σ
theorem T.seq (h:T P G acts x σ (thn P G acts y Q)):T P G acts (.seq x y) σ Q:=fun a w s=>wp_seq (wp_mono (h a w s) fun e a w ⟨σ',hr,hs⟩=>by
 cases e with
 | normal=>exact hr a w hs
 | _=>exact ⟨σ',hr,hs⟩)
theorem T.cond {c:Operand} {ix:Ix} {t:Bool} (hc:ixOk c ix=true) (ht:σ.ev1 ix=.b t) (h1:t=true→T P G acts x σ Q) (h2:t=false→T P G acts y σ Q):T P G acts (.cond c x y) σ Q:=fun a w s=>by
 obtain ⟨X,F,hs⟩:=s;have hv:=hs.ev1 hc (by rw [ht];simp);rw [ht] at hv;exact wp_cond_split hv.b_inv (fun e=>h1 e a w ⟨X,F,hs⟩) fun e=>h2 e a w ⟨X,F,hs⟩
def blk (i:Nat) (Q:Exit→St→Prop):Exit→St→Prop
 | .exit j,σ=>if j=i then Q .normal σ else Q (.exit j) σ
 | e,σ=>Q e σ
theorem T.block {i:Nat} (h:T P G acts x σ (blk i Q)):T P G acts (.block i x) σ Q:=fun a w s=>wp_block (wp_mono (h a w s) fun e a w ⟨σ',hr,hs⟩=>by
 cases e with
 | exit j =>
  simp only [blk] at hr;simp only [Exit.inBlock];split
  ·rename_i e;rw [if_pos e] at hr;exact ⟨σ',hr,hs⟩
  ·rename_i e;rw [if_neg e] at hr;exact ⟨σ',hr,hs⟩
 | _=>exact ⟨σ',hr,hs⟩)
def again (I:Nat→St→Prop) (n:Nat) (Q:Exit→St→Prop):Exit→St→Prop
 | .normal,σ=>∃ m,m<n∧I m σ
 | e,σ=>Q e σ
theorem T.loop (I:Nat→St→Prop) {n:Nat} (h0:I n σ) (h:∀ n σ,I n σ→T P G acts x σ (again I n Q)):T P G acts (.loop x) σ Q:=by
 classical
 intro a w s
 let J:Nat→Act→World→Prop:=fun m a w=>∃ σ,I m σ∧Sim G σ (a::acts) w
 have least:∀ m a w,J m a w→∃ k,J k a w∧∀ j,J j a w→k≤j:=by
  intro m;induction m using Nat.strongRecOn with
  | _ m ih =>
   intro a w hm;by_cases e:∃ j,j<m∧J j a w
   ·obtain ⟨j,hj,hJ⟩:=e;exact ih j hj a w hJ
   ·exact ⟨m,hm,fun j hj=>Nat.le_of_not_lt fun hlt=>e ⟨j,hlt,hj⟩⟩
 let μ:Act→World→Nat:=fun a w=>if h:∃ k,J k a w∧∀ j,J j a w→k≤j then h.choose else 0
 have hμ:∀ m a w,J m a w→J (μ a w) a w∧μ a w≤m:=by
  intro m a w hm;have he:=least m a w hm;have:μ a w=he.choose:=dif_pos he;rw [this];exact ⟨he.choose_spec.1,he.choose_spec.2 m hm⟩
 refine wp_loop (fun a w=>∃ m,J m a w) μ ⟨n,σ,h0,s⟩ fun a w ⟨m,hm⟩ => ?_
 obtain ⟨σ',hI,hs⟩:=(hμ m a w hm).1;refine wp_mono (h _ σ' hI a w hs) fun e a' w' ⟨σ'',hr,hs'⟩ => ?_
 cases e with
 | normal =>
  obtain ⟨k,hk,hIk⟩:=hr;have hJ:J k a' w':=⟨σ'',hIk,hs'⟩
  exact ⟨⟨k,hJ⟩,Nat.lt_of_le_of_lt (hμ k a' w' hJ).2 hk⟩
 | _=>exact ⟨σ'',hr,hs'⟩
theorem T.region {id:Nat} {ops:Array Oper} {n:Nat} {xs:List AOp} (hc:cops P ops n ops.toList=some xs) (hn:σ.env.n=n) (h:regK P xs σ fun σ'=>Q .normal σ'):T P G acts (.region id ops false) σ Q:=fun a w s=>by
 refine wp_region ?_;have:=ops_sound (Q:=fun e a w=>∃ σ',Q e σ'∧Sim G σ' (a::acts) w) ops.toList 0 (fun j=>by rw [Nat.zero_add];simp) hc hn s h fun σ' a' w' hk hs=>⟨σ',hk,hs⟩
 rw [List.range_eq_range'];simpa using this
def cCode (P:Program) (n:Nat):Code→AC
 | .skip=>.skip
 | .region _ ops false=>match cops P ops n ops.toList with
  | some xs=>.reg xs
  | none=>.bad
 | .region _ ops true=>match cops P ops n ops.toList with
  | some xs=>.dreg (ops.toList.map fun o=>(o.after.toList.filter (Region.binds .any)).map (·.on)) xs
  | none=>.bad
 | .seq x y=>.seq (cCode P n x) (cCode P n y)
 | .cond c x y=>match cIx c with
  | some i=>.cond i (cCode P n x) (cCode P n y)
  | none=>.bad
 | .block i x=>.block i (cCode P n x)
 | .loop x=>.loop (cCode P n x)
 | .exit i=>.exit i
 | .ret=>.ret
 | _=>.bad
def TA (P:Program) (G:Fr) (acts:List Act) (n:Nat) (k:AC) (σ:St) (Q:Exit→St→Prop):Prop :=
 ∀ c,cCode P n c=k→T P G acts c σ Q
variable {n:Nat} {k l:AC}
theorem TA.wk (h:Wk G σ σ') (t:TA P G acts n k σ' Q):TA P G acts n k σ Q:=fun c hc=>(t c hc).wk h
theorem TA.mono (h:TA P G acts n k σ R) (t:∀ e σ,R e σ→Q e σ):TA P G acts n k σ Q:=fun c hc=>(h c hc).mono t
theorem TA.skip (h:Q .normal σ):TA P G acts n .skip σ Q:=fun c hc=>by
 unfold cCode at hc;split at hc<;>first|exact T.skip h|cases hc|(split at hc<;>cases hc)
theorem TA.ret (h:Q .ret σ):TA P G acts n .ret σ Q:=fun c hc=>by
 unfold cCode at hc;split at hc<;>first|exact T.ret h|cases hc|(split at hc<;>cases hc)
theorem TA.exit {i:Nat} (h:Q (.exit i) σ):TA P G acts n (.exit i) σ Q:=fun c hc=>by
 unfold cCode at hc;split at hc<;>first|(injection hc with e;subst e;exact T.exit h)|cases hc|(split at hc<;>cases hc)
def thnA (P:Program) (G:Fr) (acts:List Act) (n:Nat) (l:AC) (Q:Exit→St→Prop):Exit→St→Prop
 | .normal,σ=>TA P G acts n l σ Q
 | e,σ=>Q e σ
theorem TA.seq (h:TA P G acts n k σ (thnA P G acts n l Q)):TA P G acts n (.seq k l) σ Q:=fun c hc=>by
 unfold cCode at hc;split at hc<;>first
  | (
    injection hc with e1 e2;refine T.seq ((h _ e1).mono fun e σ hq => ?_);cases e with
    | normal=>exact hq _ e2
    | _=>exact hq)
  | cases hc|(split at hc<;>cases hc)
theorem TA.cond {ix:Ix} {t:Bool} (ht:σ.ev1 ix=.b t) (h1:t=true→TA P G acts n k σ Q) (h2:t=false→TA P G acts n l σ Q):TA P G acts n (.cond ix k l) σ Q:=fun c hc=>by
 unfold cCode at hc;split at hc<;>first
  | (
    split at hc
    ·rename_i i hi;injection hc with e1 e2 e3;subst e1;exact T.cond (cIx_ok hi) ht (fun e=>h1 e _ e2) fun e=>h2 e _ e3
    ·cases hc)
  | cases hc|(split at hc<;>cases hc)
theorem TA.block {i:Nat} (h:TA P G acts n k σ (blk i Q)):TA P G acts n (.block i k) σ Q:=fun c hc=>by
 unfold cCode at hc;split at hc<;>first|(injection hc with e1 e2;subst e1;exact T.block (h _ e2))|cases hc|(split at hc<;>cases hc)
theorem TA.loop (I:Nat→St→Prop) {m:Nat} (h0:I m σ) (h:∀ m σ,I m σ→TA P G acts n k σ (again I m Q)):TA P G acts n (.loop k) σ Q:=fun c hc=>by
 unfold cCode at hc;split at hc<;>first|(injection hc with e1;exact T.loop I h0 fun m σ hI=>h m σ hI _ e1)|cases hc|(split at hc<;>cases hc)
theorem TA.reg {xs:List AOp} (hn:σ.env.n=n) (h:regK P xs σ fun σ'=>Q .normal σ'):TA P G acts n (.reg xs) σ Q:=fun c hc=>by
 unfold cCode at hc;split at hc<;>first
  | (
    split at hc
    ·rename_i hx;injection hc with e1;subst e1;exact T.region hx hn h
    ·cases hc)
  | cases hc|(split at hc<;>cases hc)
theorem con_ofA {f : FuncId} {fn : Func} {c : Code} {rv : List ResultVar} {rs : List Rk} {args : List Arg} {res : List R1} {k : AC} (hf : P.funcs[f]? = some fn) (hb : fn.body = some c) (hr : fn.results = rv.toArray) (hrv : cRess P rv = some rs) (hnt : fn.ntmps = n) (hc : cCode P n c = k) (hn : args.length ≤ n) (hname : (fn.name == "runtime.NumGoroutine") = false)
  (h:∀ G,TA P G [] n k (entry n args) fun e σ=>(e=.normal∨e=.ret)∧doneK rs args res σ):Con P f args res :=
 con_of hf hb hr hrv (by rw [hnt];exact hn) hname fun G=>by rw [hnt];exact h G c hc
end
section
variable {P:Program} {G:Fr} {X X':Ctx} {F F':Nat→List Nat} {σ σ':St} {a:Act} {acts:List Act} {w w':World} {M M' N:Nat→Prop} {τ:Nat→Value} {o:Oper}
theorem look_mem:∀ (l:List (Nat×RV)) (t:Nat),look l t=.un∨∃ e∈l,e.1=t∧look l t=e.2
 | [],t=>.inl rfl
 | (s,v)::l,t=>by
  simp only [look];by_cases h:t=s
  ·rw [if_pos h];exact .inr ⟨(s,v),by simp,h.symm,rfl⟩
  ·rw [if_neg h];rcases look_mem l t with k|⟨e,he,k1,k2⟩
   ·exact .inl k
   ·exact .inr ⟨e,by simp [he],k1,k2⟩
theorem Wk.regs (l':List (Nat×RV)) (h:∀ e∈l',look σ.env.l e.1=e.2):Wk G σ { σ with env:=⟨σ.env.n,l'⟩ }:=by
 rintro acts w ⟨X,F,hs⟩;refine ⟨X,F,?_⟩;cases acts with
 | nil=>cases hs.envs
 | cons a acts =>
  refine hs.reEnv (E:=⟨σ.env.n,l'⟩) ?_;cases hs.envs with
  | cons e t =>
   refine ⟨e.defers,e.size,fun s => ?_⟩;show RVR _ _ _ (look l' s) _;rcases look_mem l' s with k|⟨y,hy,k1,k2⟩
   ·rw [k];trivial
   ·rw [k2,←h y hy,k1];exact e.reg s
end
def kills (σ:St):List Nat→St
 | []=>σ
 | i::r=>kills (σ.setSlot i .dead) r
section
variable {P:Program} {G:Fr} {X X':Ctx} {F F':Nat→List Nat} {σ σ':St} {a:Act} {acts:List Act} {w w':World} {M M' N:Nat→Prop} {τ:Nat→Value} {o:Oper}
theorem Wk.fold {id e j c len k':Nat} {B B':Blk} {cl:List PV} {l':List (List PV)} (hB:σ.slot id=.live B) (he:B.l[e]? = some cl) (hj:cl[j]? = some (.ref c 0 len len)) (hB':σ.slot c=.live B') (hl:B'.l.length=len) (hkd:B'.kd=0) (hne:c≠id) (hk':B'.k=k') (hl':B'.l=l') (hn:∀ c∈l',∀ p∈c,NoRef p) :
  Wk G σ ((σ.setSlot c .dead).setSlot id (.live { B with l:=B.l.set e (cl.set j (.vs true k' l')) })):=by
 subst hk' hl';rintro acts w ⟨X,F,h⟩;have hid:X.H id=.live B:=by rw [h.hH];exact hB
 have hc:X.H c=.live B':=by rw [h.hH];exact hB'
 obtain ⟨hk,xs,hcs,hrow⟩:=h.blk id B hid;have hclk:cl.length=B.k:=hk cl (List.mem_of_getElem? he);have hjl:j<cl.length:=(List.getElem?_eq_some_iff.1 hj).1;have hel:e<B.l.length:=(List.getElem?_eq_some_iff.1 he).1;have hfl:B.l.flatten[e*B.k+j]? = some (.ref c 0 len len):=by rw [flatten_get B.l hk e j (by omega),he];exact hj
 let pos:=e*B.k+j
 have hpl:pos<B.l.flatten.length:=(List.getElem?_eq_some_iff.1 hfl).1;obtain ⟨hll,fps,hfps,hF,hrc⟩:=hcs;have hu:=List.getElem?_eq_getElem (show pos<xs.length by omega);have hf:=List.getElem?_eq_getElem (show pos<fps.length by omega);have href:=hrc pos _ _ _ hfl hu hf;have hf0:fps[pos]'(by omega)=[]:=href.fp_nil (by simp);have htake:takeP σ (.ref c 0 len len)=some (.vs true B'.k B'.l,[c]):=by simp [takeP,hB',hl,hkd]
 obtain ⟨f',k1,k2,_,_,k4⟩:=h.takeP_ok href htake (.vs hn) (by rw [hf0];simp);have hf':f'=Own X F c:=by
  rcases k4 with ⟨k,_⟩|⟨i,k,k5⟩
  ·cases k
  ·simp at k;subst k;exact k5
 subst hf'
 let B1:Blk:={ B with l:=B.l.set e (cl.set j (.vs true B'.k B'.l)) }
 let F1:Nat→List Nat:=upd F id (fps.set pos (Own X F c)).flatten
 let X1:Ctx:=⟨upd (upd X.H c .dead) id (.live B1),X.A,X.C,X.τ,X.N⟩
 have e1:X1.H id=.live B1:=by simp [X1,upd]
 have e2:X1.H c=.dead:=by simp [X1,upd,hne]
 have e3:∀ i,i≠id→i≠c→X1.H i=X.H i:=by intro i h1 h2;simp [X1,upd,h1,h2]
 have hfne:∀ i,i≠id→Own X1 F1 i=Own X F i:=by intro i hi;simp [Own,X1,F1,upd,hi]
 have hmemset:∀ g,g∈(fps.set pos (Own X F c)).flatten→g∈F id∨g∈Own X F c:=by
  intro g hg;obtain ⟨f,hfm,hgf⟩:=List.mem_flatten.1 hg;rcases List.mem_or_eq_of_mem_set hfm with h1|rfl
  ·exact .inl (by rw [hF];exact List.mem_flatten.2 ⟨f,h1,hgf⟩)
  ·exact .inr hgf
 have hOid:∀ g,g∈Own X1 F1 id→g∈Own X F id∨g∈Own X F c:=by
  intro g hg;have:Own X1 F1 id=((X.A id).map (·.1)).toList++(fps.set pos (Own X F c)).flatten:=by simp [Own,X1,F1,upd]
  rw [this] at hg;rcases lma.1 hg with k|k
  ·exact .inl (lma.2 (.inl k))
  ·exact (hmemset g k).imp (fun k=>lma.2 (.inr k)) _root_.id
 have hlive:∀ i B0,X1.H i=.live B0→(i=id∧B0=B1)∨(i≠id∧i≠c∧X.H i=.live B0):=by
  intro i B0 hi;by_cases h1:i=id
  ·subst h1;rw [e1] at hi;injection hi with hi;exact .inl ⟨rfl,hi.symm⟩
  ·by_cases h2:i=c
   ·subst h2;rw [e2] at hi;cases hi
   ·rw [e3 i h1 h2] at hi;exact .inr ⟨h1,h2,hi⟩
 have hM1:∀ g,Mut1 X1 F1 g→Mut1 X F g:=by
  rintro g ⟨i,B0,hi,hg⟩;rcases hlive i B0 hi with ⟨rfl,rfl⟩|⟨h1,h2,h3⟩
  ·rcases hOid g hg with k|k
   ·exact ⟨i,B,hid,k⟩
   ·exact ⟨c,B',hc,k⟩
  ·rw [hfne i h1] at hg;exact ⟨i,B0,h3,hg⟩
 have hMM:∀ g,g<w.heap.size→¬ Mut X F g→¬ Mut X1 F1 g:=fun g _ hn hm=>hn (hm.imp (fun k=>k) (hM1 g))
 have hX:X.Le X1:=by
  refine ⟨fun i hi => ?_,fun i B0 hi => ?_,rfl⟩
  ·by_cases h1:i=id
   ·subst h1;rw [e1] at hi;cases hi
   ·by_cases h2:i=c
    ·subst h2;rw [e2] at hi;cases hi
    ·rw [e3 i h1 h2] at hi;exact hi
  ·rcases hlive i B0 hi with ⟨rfl,rfl⟩|⟨h1,h2,h3⟩
   ·exact .inr ⟨B,hid,.inr ⟨by simp [B1],rfl,rfl,rfl,rfl⟩⟩
   ·exact .inr ⟨B0,h3,.inr ⟨rfl,rfl,rfl,rfl,rfl⟩⟩
 have hnd:=h.nd id B hid;have hndc:=h.nd c B' hc;have hdc:=h.dj c id B' B hc hid hne;refine ⟨X1,F1,h.step (fun i => ?_) hX rfl rfl rfl (fun g hg=>.inl (hM1 g hg)) (fun g hg=>h.lt g (hM1 g hg)) (fun _ _ _=>rfl) h.kept (fun i B0 hi => ?_) (fun i B0 hi => ?_) (fun i i' B0 B2 hi hi' hii g hg hg' => ?_) (fun i x hx => ?_)⟩
 ·rw [St.slot_setSlot,St.slot_setSlot];by_cases h1:i=id
  ·subst h1;rw [e1,if_pos rfl]
  ·rw [if_neg h1];by_cases h2:i=c
   ·subst h2;rw [e2,if_pos rfl]
   ·rw [if_neg h2,e3 i h1 h2,h.hH]
 ·rcases hlive i B0 hi with ⟨rfl,rfl⟩|⟨h1,h2,h3⟩
  ·refine ⟨fun c0 hc0 => ?_,xs,?_,?_⟩
   ·rcases List.mem_or_eq_of_mem_set hc0 with k|rfl
    ·exact hk c0 k
    ·simpa using hclk
   ·have hfs:=flatten_set B.l hk e j cl (.vs true B'.k B'.l) he (by omega);show RCs w (Mut X1 F1) X1 (B.l.set e (cl.set j (.vs true B'.k B'.l))).flatten xs (F1 i);rw [hfs,show F1 i=(fps.set pos (Own X F c)).flatten by simp [F1,upd]];refine ⟨by simpa using hll,fps.set pos (Own X F c),by simpa using hfps,rfl,fun q p u f hp hu' hf' => ?_⟩;rw [List.getElem?_set] at hp hf';by_cases hq:e*B.k+j=q
    ·subst hq;rw [if_pos rfl,if_pos hpl] at hp;rw [if_pos rfl,if_pos (show pos<fps.length by omega)] at hf';injection hp with hp;subst hp;injection hf' with hf';subst hf';have:u=xs[pos]'(by omega):=by rw [hu] at hu';exact (Option.some.inj hu').symm
     subst this;exact k1 _ X1 rfl hMM
    ·rw [if_neg hq] at hp;rw [if_neg (show ¬ pos=q from hq)] at hf';exact (hrc q p u f hp hu' hf').frame (fun _ _=>rfl) (fun _ _ _=>rfl) hMM hX
   ·have hbl:B1.l.length=B.l.length:=by simp [B1]
    rcases hrow with ⟨h0,e',hr⟩|⟨h0,y,hy,h1,h2⟩
    ·exact .inl ⟨h0,e',by rw [hbl];exact hr⟩
    ·exact .inr ⟨h0,y,hy,by rw [hbl];exact h1,h2⟩
  ·rw [show F1 i=F i by simp [F1,upd,h1]];exact (h.blk i B0 h3).frame (fun _ _=>rfl) (fun _ _ _=>rfl) hMM hX rfl rfl
 ·rcases hlive i B0 hi with ⟨rfl,rfl⟩|⟨h1,h2,h3⟩
  ·have:Own X1 F1 i=((X.A i).map (·.1)).toList++(fps.set pos (Own X F c)).flatten:=by simp [Own,X1,F1,upd]
   rw [this];have hndF:(((X.A i).map (·.1)).toList++fps.flatten).Nodup:=by rw [← hF];exact hnd
   have n1:=List.nodup_append.1 hndF;obtain ⟨n2,n3⟩:=nodup_flat n1.2.1;refine List.nodup_append.2 ⟨n1.1,?_,fun g hg g' hg' eq => ?_⟩
   ·show List.Pairwise _ _;refine List.pairwise_flatten.2 ⟨fun f hfm => ?_,List.pairwise_iff_getElem.2 fun q q' hq hq' hqq g hg g' hg' eq => ?_⟩
    ·rcases List.mem_or_eq_of_mem_set hfm with k|rfl
     ·exact n2 f k
     ·exact hndc
    ·subst eq;rw [List.getElem_set] at hg hg';simp only [List.length_set] at hq hq';have inF:∀ q (hq:q<fps.length),g∈fps[q]→g∈Own X F i:=fun q hq hg=>lma.2 (.inr (by rw [hF];exact List.mem_flatten.2 ⟨_,List.getElem_mem hq,hg⟩))
     split at hg<;>split at hg'
     ·omega
     ·exact hdc g hg (inF q' hq' hg')
     ·exact hdc g hg' (inF q hq hg)
     ·exact n3 q q' _ _ (List.getElem?_eq_getElem hq) (List.getElem?_eq_getElem hq') (by omega) g hg hg'
   ·subst eq;rcases hmemset g hg' with k|k
    ·exact n1.2.2 g hg g (by rw [← hF];exact k) rfl
    ·exact hdc g k (lma.2 (.inl hg))
  ·rw [hfne i h1];exact h.nd i B0 h3
 ·rcases hlive i B0 hi with ⟨rfl,rfl⟩|⟨h1,h2,h3⟩<;>rcases hlive i' B2 hi' with ⟨rfl,rfl⟩|⟨m1,m2,m3⟩
  ·exact hii rfl
  ·rw [hfne i' m1] at hg';rcases hOid g hg with k|k
   ·exact h.dj i i' B B2 hid m3 hii g k hg'
   ·exact h.dj c i' B' B2 hc m3 (fun e=>m2 e.symm) g k hg'
  ·rw [hfne i h1] at hg;rcases hOid g hg' with k|k
   ·exact h.dj i i' B0 B h3 hid hii g hg k
   ·exact h.dj i c B0 B' h3 hc h2 g hg k
  ·rw [hfne i h1] at hg;rw [hfne i' m1] at hg';exact h.dj i i' B0 B2 h3 m3 hii g hg hg'
 ·obtain ⟨B0,hB0,k1,k2,k3⟩:=h.win i x hx;by_cases h1:i=id
  ·subst h1;rw [hid] at hB0;injection hB0 with hB0;subst hB0
   exact ⟨B1,e1,k1,k2,k3⟩
  ·by_cases h2:i=c
   ·subst h2;rw [hc] at hB0;injection hB0 with hB0;subst hB0;omega
   ·exact ⟨B0,by rw [e3 i h1 h2];exact hB0,k1,k2,k3⟩
theorem kills_env:∀ (l:List Nat) (σ:St),(kills σ l).env=σ.env∧(kills σ l).sus=σ.sus
 | [],σ=>⟨rfl,rfl⟩
 | i::l,σ=>kills_env l (σ.setSlot i .dead)
theorem kills_slot:∀ (l:List Nat) (σ:St) (i:Nat),(kills σ l).slot i=if i∈l then .dead else σ.slot i
 | [],σ,i=>by simp [kills]
 | j::l,σ,i=>by
  simp only [kills];rw [kills_slot l,St.slot_setSlot];by_cases h1:i∈l
  ·simp [h1]
  ·by_cases h2:i=j<;>simp [h1,h2]
theorem Wk.freeze {t:Nat} {r x:R1} {l:List Nat} (hr:σ.reg t=.r r) (hv:vwR σ r x fun l'=>l'=l) (hl:∀ i∈l,∃ B,σ.slot i=.live B∧B.kd≠2) (hn:∀ p∈x.cs,NoRef p) (ht:t<σ.env.n):Wk G σ ((kills σ l).put t (.r x)):=by
 rintro acts w ⟨X0',F,h0⟩;have h:=h0.reN G.N (fun _ hg=>hg) fun g _ hg=>.inl (h0.hN g hg)
 generalize hX0:X0'.withN G.N=X at h;have hXN:X.N=G.N:=by rw [← hX0];rfl
 cases acts with
 | nil=>cases h.envs
 | cons a acts =>
  have hrr:=h.reg t;rw [hr] at hrr;obtain ⟨l',rfl,hview⟩:=h.vwR_ok (τ:=X.τ) hrr hv hn rfl;have hlive:∀ i∈l',∃ B,X.H i=.live B∧B.kd≠2:=fun i hi=>by obtain ⟨B,hB,hk⟩:=hl i hi;exact ⟨B,by rw [h.hH];exact hB,hk⟩
  let X1:Ctx:=⟨fun i=>if i∈l' then .dead else X.H i,X.A,X.C,X.τ,X.N⟩
  have hl1:∀ i B,X1.H i=.live B→i∉l'∧X.H i=.live B:=by
   intro i B hi;by_cases e:i∈l'
   ·simp [X1,e] at hi
   ·exact ⟨e,by simpa [X1,e] using hi⟩
  have hM1:∀ g,Mut1 X1 F g→Mut1 X F g:=fun g ⟨i,B,hi,hg⟩=>⟨i,B,(hl1 i B hi).2,hg⟩
  have hMM:∀ g,g<w.heap.size→¬ Mut X F g→¬ Mut X1 F g:=fun g _ hn hm=>hn (hm.imp (fun k=>k) (hM1 g))
  have hX:X.Le X1:=by
   refine ⟨fun i hi => ?_,fun i B hi=>.inr ⟨B,(hl1 i B hi).2,.inr ⟨rfl,rfl,rfl,rfl,rfl⟩⟩,rfl⟩;by_cases e:i∈l'
   ·simp [X1,e] at hi
   ·simpa [X1,e] using hi
  have hke:=kills_env l' σ;have hs1:SimW G X1 F (kills σ l') (a::acts) w:=h.step (fun i=>by rw [kills_slot,←h.hH]) hX rfl hke.1 hke.2 (fun g hg=>.inl (hM1 g hg)) (fun g hg=>h.lt g (hM1 g hg)) (fun _ _ _=>rfl) h.kept
   (fun i B hi=>(h.blk i B (hl1 i B hi).2).frame (fun _ _=>rfl) (fun _ _ _=>rfl) hMM hX rfl rfl) (fun i B hi=>h.nd i B (hl1 i B hi).2) (fun i j B B' hi hj=>h.dj i j B B' (hl1 i B hi).2 (hl1 j B' hj).2)
   (fun i y hy=>by
    obtain ⟨B,hB,k1,k2⟩:=h.win i y hy;have:i∉l':=fun hi=>by obtain ⟨B',hB',hk⟩:=hlive i hi;rw [hB] at hB';injection hB' with hB';subst hB';exact hk k1
    exact ⟨B,by simp [X1,this,hB],k1,k2⟩)
  have hres:R1R w (Mut X1 F) X1 x (a.tmps.getD t undef) []:=by
   have hv0:=hview (Mut X1 F) hMM fun i hi g hg hm=>by
    obtain ⟨B,hB,hk⟩:=hlive i hi;rcases hm with hm|⟨j,B',hj,hg'⟩
    ·have hmG:G.N g:=by rw [← hXN];exact hm
     rcases h.src g ⟨i,B,hB,hg⟩ with k|⟨y,hy,k⟩|k
     ·exact h.gok.1 g k hmG
     ·obtain ⟨q,hq⟩:=List.getElem?_of_mem hy;obtain ⟨Bq,hBq,hkq,hAq,_⟩:=h.win q y hq;refine h.dj q i Bq B hBq hB (fun e => ?_) g (by simp [Own,hAq,k]) hg;subst e;rw [hB] at hBq;injection hBq with hBq;subst hBq;exact hk hkq
     ·have:=h.gok.2 g hmG;omega
    ·obtain ⟨h1,h2⟩:=hl1 j B' hj;exact h.dj i j B B' hB h2 (fun e=>h1 (e▸hi)) g hg hg'
   cases x with
   | one p=>exact RC.move hv0 (hn p (by simp [R1.cs])) (by simp) (fun _ _ _=>rfl) (fun _ _ k=>k) rfl
   | agg m =>
    obtain ⟨xs,e1,e2⟩:=hv0;exact ⟨xs,e1,e2.map_rc fun p u f hp _ hr'=>hr'.move (hn p hp) (fun _ _=>rfl) (fun _ _ _=>rfl) (fun _ _ k=>k) rfl⟩
  have hput:=hs1.put (d:=t) (v:=.r x) (u:=a.tmps.getD t undef) hres (by rw [hke.1];exact ht);have ha:a.put (some t) (a.tmps.getD t undef)=a:=by
   cases h.envs with
   | cons e _ =>
    have hsz:=e.size;have:a.tmps.setIfInBounds t (a.tmps.getD t undef)=a.tmps:=by
     apply Array.ext
     ·simp
     ·intro q h1 h2;rw [Array.getElem_setIfInBounds];split
      ·rename_i e;subst e;simp [Array.getD_eq_getD_getElem?,h2]
      ·rfl
    show ({ a with tmps:=a.tmps.setIfInBounds t (a.tmps.getD t undef) }:Act)=a;rw [this]
  rw [ha] at hput;exact ⟨X1,F,hput⟩
end
def AK.ixs:AK→List Ix
 | .mv x|.box x|.mks _ _ _ x|.ld1 x|.ld _ x|.nchk x|.not x|.neg x|.conv _ x|.fa _ x|.len x|.ext _ x=>[x]
 | .nils _|.alloc _=>[]
 | .pick c x y=>[c,x,y]
 | .build _ ps=>ps.map (·.2.2)
 | .bsl _ _ _ ps=>ps.map (·.2)
 | .st _ x y|.bin _ _ x y|.eqs _ _ x y|.ia _ x y|.app _ _ x y|.copy x y|.mn x y|.mx x y=>[x,y]
 | .slc _ x lo hi=>x::(lo.toList++hi.toList)
 | .mkf _ l=>l
 | .call _ l=>l
 | .clo x l=>x::l
structure Loc (σ σ':St) (is:List Ix) (sl:List Nat):Prop where
 ev:∀ x∈is,σ'.ev x=σ.ev x
 slot:∀ i∈sl,σ'.slot i=σ.slot i
section
variable {P:Program} {σ σ':St} {b:Nat} {K:Eff→Prop} {is:List Ix} {sl:List Nat}
theorem Loc.ev1 (h:Loc σ σ' is sl) {x:Ix} (hx:x∈is):σ'.ev1 x=σ.ev1 x:=by unfold St.ev1;rw [h.ev x hx]
theorem Loc.blk (h:Loc σ σ' is sl) {id full:Nat} {K:Blk→Prop} (hi:id∈sl) (hb:∃ B,σ.slot id=.live B∧B.l.length=full∧K B):σ'.blk id full K:=by
 obtain ⟨B,h1,h2,h3⟩:=hb;unfold St.blk;rw [h.slot id hi,h1];exact ⟨h2,h3⟩
theorem binI_loc {op:BinOp} {k:IntKind} {x y:Int} {K:PV→Prop} (h:binI op k x y K):∃ p,K p∧binI op k x y (·=p):=by
 unfold binI at h ⊢;cases op<;>simp only at h ⊢<;>first
  | exact ⟨_,h,rfl⟩
  | exact ⟨_,h.2,h.1,rfl⟩
  | exact h.elim
theorem eqCells_mono:∀ {ks:List (Option IntKind)} {l m:List PV} {K K':Bool→Prop},eqCells ks l m K→(∀ r,K r→K' r)→eqCells ks l m K':=by
 intro ks;induction ks with
 | nil=>intro l m K K' h hk;cases l<;>cases m<;>simp [eqCells] at h ⊢;exact hk _ h
 | cons q ks ih =>
  intro l m K K' h hk;cases q with
  | none =>
   cases l with
   | nil=>simp [eqCells] at h
   | cons p l =>
    cases m with
    | nil=>cases p<;>simp [eqCells] at h
    | cons p' m=>cases p<;>cases p'<;>simp only [eqCells] at h ⊢;exact ih h fun r hr=>hk _ hr
  | some q =>
   cases l with
   | nil=>simp [eqCells] at h
   | cons p l =>
    cases m with
    | nil=>cases p<;>simp [eqCells] at h
    | cons p' m=>cases p<;>cases p'<;>simp only [eqCells] at h ⊢;exact ⟨h.1,h.2.1,ih h.2.2 fun r hr=>hk _ hr⟩
theorem eqCells_loc:∀ {ks:List (Option IntKind)} {l m:List PV} {K:Bool→Prop},eqCells ks l m K→∃ r,K r∧eqCells ks l m (·=r):=by
 intro ks;induction ks with
 | nil =>
  intro l m K h;cases l with
  | nil=>cases m with
   | nil=>exact ⟨true,h,rfl⟩
   | cons _ _=>simp [eqCells] at h
  | cons _ _=>simp [eqCells] at h
 | cons q ks ih =>
  intro l m K h;cases q with
  | none =>
   cases l with
   | nil=>simp [eqCells] at h
   | cons p l =>
    cases m with
    | nil=>cases p<;>simp [eqCells] at h
    | cons p' m =>
     cases p<;>cases p'<;>simp only [eqCells] at h ⊢;obtain ⟨r,k1,k2⟩:=ih h;exact ⟨_,k1,eqCells_mono k2 fun r' e=>by rw [e]⟩
  | some q =>
   cases l with
   | nil=>simp [eqCells] at h
   | cons p l =>
    cases m with
    | nil=>cases p<;>simp [eqCells] at h
    | cons p' m =>
     cases p<;>cases p'<;>simp only [eqCells] at h ⊢;obtain ⟨h1,h2,h3⟩:=h;obtain ⟨r,k1,k2⟩:=ih h3;exact ⟨_,k1,h1,h2,eqCells_mono k2 fun r' e=>by rw [e]⟩
theorem setParts_loc:∀ {ps:List (Nat×Nat×Ix)} {zs:List PV} {K:List PV→Prop},setParts zs σ ps K→∃ l,K l∧∀ σ':St,(∀ x∈ps.map (·.2.2),σ'.ev x=σ.ev x)→setParts zs σ' ps (·=l)
 | [],zs,K,h=>⟨zs,h,fun _ _=>rfl⟩
 | (off,n,x)::ps,zs,K,h=>by
  obtain ⟨c,h1,h2,h3,h4⟩:=h;obtain ⟨l,k1,k2⟩:=setParts_loc h4;exact ⟨l,k1,fun σ' hl=>⟨c,by rw [hl x (by simp)];exact h1,h2,h3,k2 σ' fun y hy=>hl y (by simp only [List.map_cons,List.mem_cons];exact .inr hy)⟩⟩
theorem setElems_loc {k:Nat}:∀ {ps:List (Nat×Ix)} {zs:List (List PV)} {K:List (List PV)→Prop},setElems k zs σ ps K→∃ l,K l∧∀ σ':St,(∀ x∈ps.map (·.2),σ'.ev x=σ.ev x)→setElems k zs σ' ps (·=l)
 | [],zs,K,h=>⟨zs,h,fun _ _=>rfl⟩
 | (i,x)::ps,zs,K,h=>by
  obtain ⟨c,h1,h2,h3,h4⟩:=h;obtain ⟨l,k1,k2⟩:=setElems_loc h4;exact ⟨l,k1,fun σ' hl=>⟨c,by rw [hl x (by simp)];exact h1,h2,h3,k2 σ' fun y hy=>hl y (by simp only [List.map_cons,List.mem_cons];exact .inr hy)⟩⟩
theorem slcBd_loc {o:Option Ix} {d:Nat} {K:Nat→Prop} (h:slcBd σ o d K):∃ n,K n∧∀ σ':St,(∀ x∈o.toList,σ'.ev x=σ.ev x)→∀ K':Nat→Prop,K' n→slcBd σ' o d K':=by
 cases o with
 | none=>exact ⟨d,h,fun _ _ _ k=>k⟩
 | some y =>
  simp only [slcBd] at h;split at h
  ·rename_i k n hy;refine ⟨_,h.2,fun σ' hl K' hk => ?_⟩;have:σ'.ev1 y=σ.ev1 y:=by unfold St.ev1;rw [hl y (by simp)]
   simp only [slcBd,this,hy];exact ⟨h.1,hk⟩
  ·exact h.elim
theorem evs_loc {l:List Ix} (hl:∀ x∈l,σ'.ev x=σ.ev x):evs σ' l=evs σ l:=by
 induction l with
 | nil=>rfl
 | cons x l ih =>
  simp only [evs];rw [ih fun y hy=>hl y (by simp [hy])];unfold St.ev1;rw [hl x (by simp)]
theorem appSrc_loc {k:Nat} {y:Ix} {K:List (List PV)→List Nat→Prop} (h:appSrc σ k y K):∃ ys rd,K ys rd∧∀ σ':St,σ'.ev y=σ.ev y→(∀ i∈rd,σ'.slot i=σ.slot i)→∀ K':List (List PV)→List Nat→Prop,K' ys rd→appSrc σ' k y K':=by
 unfold appSrc at h;split at h
 ·rename_i id lo len full hy;obtain ⟨B,hB,hfull,h1,h2,h3⟩:=blk_inv h;refine ⟨_,_,h3,fun σ' he hs K' hk => ?_⟩;have:σ'.ev1 y=σ.ev1 y:=by unfold St.ev1;rw [he]
  unfold appSrc St.blk;rw [this,hy];simp only;rw [hs id (by simp),hB];exact ⟨hfull,h1,h2,hk⟩
 ·rename_i o k' l hy;obtain ⟨h1,h2,h3⟩:=h;refine ⟨_,_,h3,fun σ' he hs K' hk => ?_⟩;have:σ'.ev1 y=σ.ev1 y:=by unfold St.ev1;rw [he]
  unfold appSrc;rw [this,hy];exact ⟨h1,h2,hk⟩
 ·exact h.elim
def LocE (σ:St) (b:Nat) (k:AK) (E:Eff):Prop:=∀ σ',Loc σ σ' k.ixs (E.rd++E.wh.map (·.1))→effK σ' b k (·=E)
theorem effK_loc {k:AK} (h:effK σ b k K):∃ E,K E∧LocE σ b k E:=by
 cases k with
 | mv x=>exact ⟨_,h,fun σ' hl=>by simp only [effK,hl.ev x (by simp [AK.ixs])]⟩
 | nils k=>exact ⟨_,h.2,fun σ' hl=>by simp only [effK];exact ⟨by rw [hl.slot b (by simp)];exact h.1,trivial⟩⟩
 | alloc zs=>exact ⟨_,h.2,fun σ' hl=>by simp only [effK];exact ⟨by rw [hl.slot b (by simp)];exact h.1,trivial⟩⟩
 | pick c x y =>
  simp only [effK] at h;split at h
  ·rename_i t ht;split at h
   ·rename_i e;subst e;exact ⟨_,h,fun σ' hl=>by simp only [effK,hl.ev1 (x:=c) (by simp [AK.ixs]),ht,hl.ev x (by simp [AK.ixs])];simp⟩
   ·rename_i e;refine ⟨_,h,fun σ' hl => ?_⟩;simp only [effK,hl.ev1 (x:=c) (by simp [AK.ixs]),ht,hl.ev y (by simp [AK.ixs])];rw [if_neg e];trivial
  ·exact h.elim
 | box x =>
  simp only [effK] at h;obtain ⟨h1,h⟩:=h;split at h
  ·rename_i c hc;exact ⟨_,h,fun σ' hl=>by simp only [effK,hl.ev x (by simp [AK.ixs]),hc];exact ⟨by rw [hl.slot b (by simp)];exact h1,trivial⟩⟩
  ·exact h.elim
 | build zs ps =>
  simp only [effK] at h;obtain ⟨l,h1,h2⟩:=setParts_loc h;refine ⟨_,h1,fun σ' hl => ?_⟩;simp only [effK];have:=h2 σ' hl.ev;exact setParts_mono this fun l' e=>by rw [e]
 | bsl k n zs ps =>
  simp only [effK] at h;obtain ⟨l,h1,h2⟩:=setElems_loc h.2;refine ⟨_,h1,fun σ' hl => ?_⟩;simp only [effK];exact ⟨by rw [hl.slot b (by simp)];exact h.1,setElems_mono (h2 σ' hl.ev) fun l' e=>by rw [e]⟩
 | mks k bytes zs x =>
  simp only [effK] at h;obtain ⟨h1,h⟩:=h;split at h
  ·rename_i n hn;obtain ⟨h2,h3,h4,h5⟩:=h;exact ⟨_,h5,fun σ' hl=>by simp only [effK,hl.ev1 (x:=x) (by simp [AK.ixs]),hn];exact ⟨by rw [hl.slot b (by simp)];exact h1,h2,h3,h4,trivial⟩⟩
  ·exact h.elim
 | ld1 x =>
  simp only [effK] at h;split at h
  ·rename_i id full e j hx;obtain ⟨B,hB,hfull,c,p,hc,hp,h⟩:=blk_inv h;split at h
   ·rename_i k l;obtain ⟨h1,h⟩:=h;refine ⟨_,h,fun σ' hl => ?_⟩;simp only [effK,hl.ev1 (x:=x) (by simp [AK.ixs]),hx];exact hl.blk (by simp) ⟨B,hB,hfull,c,_,hc,hp,by rw [hl.slot b (by simp)];exact h1,rfl⟩
   ·rename_i p' hne;refine ⟨_,h,fun σ' hl => ?_⟩;simp only [effK,hl.ev1 (x:=x) (by simp [AK.ixs]),hx];refine hl.blk (by simp) ⟨B,hB,hfull,c,_,hc,hp,?_⟩;split
    ·rename_i k l;exact (hne k l rfl).elim
    ·rfl
  ·rename_i l j hx;obtain ⟨p,hp,h⟩:=h;exact ⟨_,h,fun σ' hl=>by simp only [effK,hl.ev1 (x:=x) (by simp [AK.ixs]),hx];exact ⟨p,hp,rfl⟩⟩
  ·exact h.elim
 | ld n x =>
  simp only [effK] at h;split at h
  ·rename_i id full e j hx;obtain ⟨B,hB,hfull,c,hc,hj,h⟩:=blk_inv h;split at h
   ·rename_i l0 ht;refine ⟨_,h,fun σ' hl => ?_⟩;simp only [effK,hl.ev1 (x:=x) (by simp [AK.ixs]),hx];exact hl.blk (by simp) ⟨B,hB,hfull,c,hc,hj,by rw [ht]⟩
   ·rename_i l ws hne ht;obtain ⟨h1,h⟩:=h;refine ⟨_,h,fun σ' hl => ?_⟩;simp only [effK,hl.ev1 (x:=x) (by simp [AK.ixs]),hx];refine hl.blk (by simp) ⟨B,hB,hfull,c,hc,hj,?_⟩;rw [ht];cases ws with
    | nil=>exact (hne rfl).elim
    | cons y ws =>
     refine ⟨fun z hz => ?_,rfl⟩;rw [hl.slot z.1 (by simp only [List.map_cons,lma,List.mem_cons];exact .inr (.inr (by rcases List.mem_cons.1 hz with rfl|hz;exact .inl rfl;exact .inr (List.mem_map.2 ⟨z,hz,rfl⟩))))];exact h1 z hz
  ·rename_i l j hx;obtain ⟨hj,h⟩:=h;exact ⟨_,h,fun σ' hl=>by simp only [effK,hl.ev1 (x:=x) (by simp [AK.ixs]),hx];exact ⟨hj,trivial⟩⟩
  ·exact h.elim
 | st n x y =>
  simp only [effK] at h;split at h
  ·rename_i id full e j hx;obtain ⟨B,hB,hfull,c,ys,hc,hys,hyn,hj,h⟩:=blk_inv h;refine ⟨_,h,fun σ' hl => ?_⟩;simp only [effK,hl.ev1 (x:=x) (by simp [AK.ixs]),hx];exact hl.blk (by simp) ⟨B,hB,hfull,c,ys,hc,by rw [hl.ev y (by simp [AK.ixs])];exact hys,hyn,hj,rfl⟩
  ·exact h.elim
 | nchk x =>
  simp only [effK] at h;split at h
  ·rename_i hx;exact ⟨_,h,fun σ' hl=>by simp only [effK,hl.ev1 (x:=x) (by simp [AK.ixs]),hx]⟩
  ·rename_i hx;exact ⟨_,h,fun σ' hl=>by simp only [effK,hl.ev1 (x:=x) (by simp [AK.ixs]),hx]⟩
  ·exact h.elim
 | bin bo op x y =>
  simp only [effK] at h;split at h
  ·rename_i k m k' n hx hy;obtain ⟨h1,h2⟩:=h;obtain ⟨p,h3,h4⟩:=binI_loc h2;refine ⟨_,h3,fun σ' hl => ?_⟩;simp only [effK,hl.ev1 (x:=x) (by simp [AK.ixs]),hl.ev1 (x:=y) (by simp [AK.ixs]),hx,hy];exact ⟨h1,binI_mono h4 fun p' e=>by rw [e]⟩
  ·rename_i m n hx hy;obtain ⟨h1,h2⟩:=h;split at h2
   ·exact ⟨_,h2,fun σ' hl=>by simp only [effK,hl.ev1 (x:=x) (by simp [AK.ixs]),hl.ev1 (x:=y) (by simp [AK.ixs]),hx,hy];exact ⟨h1,trivial⟩⟩
   ·exact ⟨_,h2,fun σ' hl=>by simp only [effK,hl.ev1 (x:=x) (by simp [AK.ixs]),hl.ev1 (x:=y) (by simp [AK.ixs]),hx,hy];exact ⟨h1,trivial⟩⟩
   ·exact h2.elim
  ·exact h.elim
 | eqs ng ks x y =>
  simp only [effK] at h;split at h
  ·rename_i l m hx hy;obtain ⟨r,h3,h4⟩:=eqCells_loc h;refine ⟨_,h3,fun σ' hl => ?_⟩;simp only [effK,hl.ev x (by simp [AK.ixs]),hl.ev y (by simp [AK.ixs]),hx,hy];exact eqCells_mono h4 fun p' e=>by rw [e]
  ·exact h.elim
 | not x =>
  simp only [effK] at h;split at h
  ·rename_i hx;exact ⟨_,h,fun σ' hl=>by simp only [effK,hl.ev1 (x:=x) (by simp [AK.ixs]),hx]⟩
  ·exact h.elim
 | neg x =>
  simp only [effK] at h;split at h
  ·rename_i hx;exact ⟨_,h,fun σ' hl=>by simp only [effK,hl.ev1 (x:=x) (by simp [AK.ixs]),hx]⟩
  ·exact h.elim
 | conv k x =>
  simp only [effK] at h;split at h
  ·rename_i hx;exact ⟨_,h,fun σ' hl=>by simp only [effK,hl.ev1 (x:=x) (by simp [AK.ixs]),hx]⟩
  ·exact h.elim
 | fa off x =>
  simp only [effK] at h;split at h
  ·rename_i hx;exact ⟨_,h,fun σ' hl=>by simp only [effK,hl.ev1 (x:=x) (by simp [AK.ixs]),hx]⟩
  ·rename_i hx;exact ⟨_,h,fun σ' hl=>by simp only [effK,hl.ev1 (x:=x) (by simp [AK.ixs]),hx]⟩
  ·exact h.elim
 | len x =>
  simp only [effK] at h;split at h
  ·rename_i hx;exact ⟨_,h,fun σ' hl=>by simp only [effK,hl.ev1 (x:=x) (by simp [AK.ixs]),hx]⟩
  ·rename_i hx;exact ⟨_,h,fun σ' hl=>by simp only [effK,hl.ev1 (x:=x) (by simp [AK.ixs]),hx]⟩
  ·exact h.elim
 | mn x y =>
  simp only [effK] at h;split at h
  ·rename_i hx hy;exact ⟨_,h,fun σ' hl=>by simp only [effK,hl.ev1 (x:=x) (by simp [AK.ixs]),hl.ev1 (x:=y) (by simp [AK.ixs]),hx,hy]⟩
  ·exact h.elim
 | mx x y =>
  simp only [effK] at h;split at h
  ·rename_i hx hy;exact ⟨_,h,fun σ' hl=>by simp only [effK,hl.ev1 (x:=x) (by simp [AK.ixs]),hl.ev1 (x:=y) (by simp [AK.ixs]),hx,hy]⟩
  ·exact h.elim
 | ext i x =>
  simp only [effK] at h;split at h
  ·rename_i l hx;obtain ⟨y,h1,h2⟩:=h;exact ⟨_,h2,fun σ' hl=>by simp only [effK,hl.ev x (by simp [AK.ixs]),hx];exact ⟨y,h1,rfl⟩⟩
  ·exact h.elim
 | mkf f l =>
  simp only [effK] at h;refine ⟨_,h.2,fun σ' hl => ?_⟩;have e:evs σ' l=evs σ l:=evs_loc fun y hy=>hl.ev y hy
  simp only [effK];rw [e];exact ⟨h.1,rfl⟩
 | ia k x y =>
  simp only [effK] at h;split at h
  ·rename_i id lo len full kk n hx hy;obtain ⟨B,hB,hfull,h1,h2,h3,h⟩:=blk_inv h;refine ⟨_,h,fun σ' hl => ?_⟩;simp only [effK,hl.ev1 (x:=x) (by simp [AK.ixs]),hl.ev1 (x:=y) (by simp [AK.ixs]),hx,hy];exact hl.blk (by simp) ⟨B,hB,hfull,h1,h2,h3,trivial⟩
  ·rename_i o k' l kk n hx hy;obtain ⟨h1,h2,h3,c,hc,h⟩:=h;exact ⟨_,h,fun σ' hl=>by simp only [effK,hl.ev1 (x:=x) (by simp [AK.ixs]),hl.ev1 (x:=y) (by simp [AK.ixs]),hx,hy];exact ⟨h1,h2,h3,c,hc,rfl⟩⟩
  ·exact h.elim
 | slc k x lo hi =>
  have h':(match σ.ev1 x with
   | .ref id l0 len full=>σ.blk id full fun B=>B.k=k∧slcBd σ hi len fun h=>slcBd σ lo 0 fun l=>l≤h∧h≤len∧K { v:=.r (.one (.ref id (l0+l) (h-l) full)),rd:=[id] }
   | .vs o k' l0=>(o=false∨l0=[])∧(k'=k∨l0=[])∧slcBd σ hi l0.length fun h=>slcBd σ lo 0 fun l=>l≤h∧h≤l0.length∧K { v:=.r (.one (.vs false k ((l0.drop l).take (h-l)))) }
   | _=>False):=h
  split at h'
  ·rename_i id l0 len full hx;obtain ⟨B,hB,hfull,hk,h1⟩:=blk_inv h';obtain ⟨n1,h2,e1⟩:=slcBd_loc h1;obtain ⟨n2,⟨h3,h4,h5⟩,e2⟩:=slcBd_loc h2;refine ⟨_,h5,fun σ' hl => ?_⟩;show (match σ'.ev1 x with
    | .ref id l0 len full=>σ'.blk id full fun B=>B.k=k∧slcBd σ' hi len fun h=>slcBd σ' lo 0 fun l=>l≤h∧h≤len∧({ v:=.r (.one (.ref id (l0+l) (h-l) full)),rd:=[id] }:Eff)=_
    | .vs o k' l0=>(o=false∨l0=[])∧(k'=k∨l0=[])∧slcBd σ' hi l0.length fun h=>slcBd σ' lo 0 fun l=>l≤h∧h≤l0.length∧({ v:=.r (.one (.vs false k ((l0.drop l).take (h-l)))) }:Eff)=_
    | _=>False)
   rw [hl.ev1 (x:=x) (by simp [AK.ixs]),hx];exact hl.blk (by simp) ⟨B,hB,hfull,hk,e1 σ' (fun y hy=>hl.ev y (by simp only [AK.ixs,List.mem_cons,lma];exact .inr (.inr hy))) _ (e2 σ' (fun y hy=>hl.ev y (by simp only [AK.ixs,List.mem_cons,lma];exact .inr (.inl hy))) _ ⟨h3,h4,rfl⟩)⟩
  ·rename_i o k' l0 hx;obtain ⟨hk1,hk2,h1⟩:=h';obtain ⟨n1,h2,e1⟩:=slcBd_loc h1;obtain ⟨n2,⟨h3,h4,h5⟩,e2⟩:=slcBd_loc h2;refine ⟨_,h5,fun σ' hl => ?_⟩;show (match σ'.ev1 x with
    | .ref id l0 len full=>σ'.blk id full fun B=>B.k=k∧slcBd σ' hi len fun h=>slcBd σ' lo 0 fun l=>l≤h∧h≤len∧({ v:=.r (.one (.ref id (l0+l) (h-l) full)),rd:=[id] }:Eff)=_
    | .vs o k' l0=>(o=false∨l0=[])∧(k'=k∨l0=[])∧slcBd σ' hi l0.length fun h=>slcBd σ' lo 0 fun l=>l≤h∧h≤l0.length∧({ v:=.r (.one (.vs false k ((l0.drop l).take (h-l)))) }:Eff)=_
    | _=>False)
   rw [hl.ev1 (x:=x) (by simp [AK.ixs]),hx];exact ⟨hk1,hk2,e1 σ' (fun y hy=>hl.ev y (by simp only [AK.ixs,List.mem_cons,lma];exact .inr (.inr hy))) _ (e2 σ' (fun y hy=>hl.ev y (by simp only [AK.ixs,List.mem_cons,lma];exact .inr (.inl hy))) _ ⟨h3,h4,rfl⟩)⟩
  ·exact h'.elim
 | app k bytes x y =>
  have h':(match σ.ev1 x with
   | .ref id 0 len full=>len=full∧σ.blk id full fun B=>B.k=k∧appSrc σ k y fun ys rd=>(len+ys.length)*bytes≤140737488355328∧(∀ c∈ys,c.length=k) ∧
     K { v:=.r (.one (.ref id 0 (len+ys.length) (len+ys.length))),wh:=[(id,.live { B with kids:=[],l:=B.l++ys })],rd:=id::rd }
   | .vs true _ []=>σ.slot b=.fresh∧appSrc σ k y fun ys rd=>ys.length*bytes≤140737488355328∧(∀ c∈ys,c.length=k) ∧
     K { v:=.r (.one (.ref b 0 ys.length ys.length)),wh:=[(b,.live ⟨0,k,[],ys⟩)],rd:=rd }
   | _=>False):=h
  have fin:∀ (σ':St) (E:Eff),(match σ'.ev1 x with
   | .ref id 0 len full=>len=full∧σ'.blk id full fun B=>B.k=k∧appSrc σ' k y fun ys rd=>(len+ys.length)*bytes≤140737488355328∧(∀ c∈ys,c.length=k) ∧
     ({ v:=.r (.one (.ref id 0 (len+ys.length) (len+ys.length))),wh:=[(id,.live { B with kids:=[],l:=B.l++ys })],rd:=id::rd }:Eff)=E
   | .vs true _ []=>σ'.slot b=.fresh∧appSrc σ' k y fun ys rd=>ys.length*bytes≤140737488355328∧(∀ c∈ys,c.length=k) ∧
     ({ v:=.r (.one (.ref b 0 ys.length ys.length)),wh:=[(b,.live ⟨0,k,[],ys⟩)],rd:=rd }:Eff)=E
   | _=>False)→effK σ' b (.app k bytes x y) (·=E):=fun σ' E hh=>hh
  split at h'
  ·rename_i id len full hx;obtain ⟨hlen,h'⟩:=h';obtain ⟨B,hB,hfull,hk,h1⟩:=blk_inv h';obtain ⟨ys,rd,⟨h2,h3,h4⟩,e1⟩:=appSrc_loc h1;refine ⟨_,h4,fun σ' hl=>fin σ' _ ?_⟩;rw [hl.ev1 (x:=x) (by simp [AK.ixs]),hx];exact ⟨hlen,hl.blk (by simp) ⟨B,hB,hfull,hk,e1 σ' (hl.ev y (by simp [AK.ixs])) (fun i hi=>hl.slot i (by simp [hi])) _ ⟨h2,h3,rfl⟩⟩⟩
  ·rename_i q hx;obtain ⟨hf,h1⟩:=h';obtain ⟨ys,rd,⟨h2,h3,h4⟩,e1⟩:=appSrc_loc h1;refine ⟨_,h4,fun σ' hl=>fin σ' _ ?_⟩;rw [hl.ev1 (x:=x) (by simp [AK.ixs]),hx];exact ⟨by rw [hl.slot b (by simp)];exact hf,e1 σ' (hl.ev y (by simp [AK.ixs])) (fun i hi=>hl.slot i (by simp [hi])) _ ⟨h2,h3,rfl⟩⟩
  ·exact h'.elim
 | copy x y =>
  have h':(match σ.ev1 x with
   | .ref id lo len full=>σ.blk id full fun B=>B.k=1∧appSrc σ 1 y fun ys rd=>(∀ c∈ys,c.length=1) ∧
     K { v:=.r (.one (.i .i64 ((min ys.length len:Nat):Int))),wh:=[(id,.live { B with kids:=[],l:=B.l.take lo++ys.take len++B.l.drop (lo+min ys.length len) })],rd:=id::rd }
   | _=>False):=h
  have fin:∀ (σ':St) (E:Eff),(match σ'.ev1 x with
   | .ref id lo len full=>σ'.blk id full fun B=>B.k=1∧appSrc σ' 1 y fun ys rd=>(∀ c∈ys,c.length=1) ∧
     ({ v:=.r (.one (.i .i64 ((min ys.length len:Nat):Int))),wh:=[(id,.live { B with kids:=[],l:=B.l.take lo++ys.take len++B.l.drop (lo+min ys.length len) })],rd:=id::rd }:Eff)=E
   | _=>False)→effK σ' b (.copy x y) (·=E):=fun σ' E hh=>hh
  split at h'
  ·rename_i id lo len full hx;obtain ⟨B,hB,hfull,hk,h1⟩:=blk_inv h';obtain ⟨ys,rd,⟨h3,h4⟩,e1⟩:=appSrc_loc h1;refine ⟨_,h4,fun σ' hl=>fin σ' _ ?_⟩;rw [hl.ev1 (x:=x) (by simp [AK.ixs]),hx];exact hl.blk (by simp) ⟨B,hB,hfull,hk,e1 σ' (hl.ev y (by simp [AK.ixs])) (fun i hi=>hl.slot i (by simp [hi])) _ ⟨h3,rfl⟩⟩
  ·exact h'.elim
 | call f l=>exact h.elim
 | clo x l=>exact h.elim
where
 binI_mono {op:BinOp} {k:IntKind} {x y:Int} {K K':PV→Prop} (h:binI op k x y K) (hk:∀ p,K p→K' p):binI op k x y K':=by
  unfold binI at h ⊢;cases op<;>simp only at h ⊢<;>first
   | exact hk _ h
   | exact ⟨h.1,hk _ h.2⟩
   | exact h.elim
 setParts_mono {σ:St}:∀ {ps:List (Nat×Nat×Ix)} {zs:List PV} {K K':List PV→Prop},setParts zs σ ps K→(∀ l,K l→K' l)→setParts zs σ ps K'
  | [],zs,K,K',h,hk=>hk _ h
  | (off,n,x)::ps,zs,K,K',h,hk=>by
   obtain ⟨c,h1,h2,h3,h4⟩:=h;exact ⟨c,h1,h2,h3,setParts_mono h4 hk⟩
 setElems_mono {σ:St} {k:Nat}:∀ {ps:List (Nat×Ix)} {zs:List (List PV)} {K K':List (List PV)→Prop},setElems k zs σ ps K→(∀ l,K l→K' l)→setElems k zs σ ps K'
  | [],zs,K,K',h,hk=>hk _ h
  | (i,x)::ps,zs,K,K',h,hk=>by
   obtain ⟨c,h1,h2,h3,h4⟩:=h;exact ⟨c,h1,h2,h3,setElems_mono h4 hk⟩
end
section
variable {P:Program} {σ σ':St} {b:Nat} {is:List Ix} {sl:List Nat}
theorem vc_loc {p p':PV} {l:List Nat} (h:vc σ p=some (p',l)) (σ':St) (hs:∀ i∈l,σ'.slot i=σ.slot i):vc σ' p=some (p',l):=by
 unfold vc at h ⊢;split at h
 ·rename_i id lo len full;split at h
  ·rename_i B hB;split at h
   ·rename_i hf;simp only [osi,Prod.mk.injEq] at h;obtain ⟨rfl,rfl⟩:=h;rw [hs id (by simp),hB];simp [hf]
   ·cases h
  ·cases h
 ·cases h
 ·exact h
theorem vcL_loc:∀ {ps qs:List PV} {l:List Nat},vcL σ ps=some (qs,l)→∀ σ':St,(∀ i∈l,σ'.slot i=σ.slot i)→vcL σ' ps=some (qs,l)
 | [],qs,l,h,σ',hs=>h
 | p::ps,qs,l,h,σ',hs=>by
  simp only [vcL] at h ⊢;split at h
  ·rename_i q i qs' is' h1 h2;simp only [osi,Prod.mk.injEq] at h;obtain ⟨rfl,rfl⟩:=h;rw [vc_loc h1 σ' fun j hj=>hs j (by simp [hj]),vcL_loc h2 σ' fun j hj=>hs j (by simp [hj])]
  ·cases h
theorem vwP_loc {p x:PV} {K:List Nat→Prop} (h:vwP σ p x K):∃ l,K l∧∀ σ':St,(∀ i∈l,σ'.slot i=σ.slot i)→∀ K':List Nat→Prop,K' l→vwP σ' p x K':=by
 unfold vwP at h;split at h
 ·rename_i id full e j;split at h
  ·rename_i B hB;obtain ⟨hf,c,hc,h⟩:=h;split at h
   ·rename_i c' l hv;refine ⟨_,h.2,fun σ' hs K' hk => ?_⟩;unfold vwP;simp only;rw [hs id (by simp),hB];refine ⟨hf,c,hc,?_⟩;rw [vcL_loc hv σ' fun i hi=>hs i (by simp [hi])];exact ⟨h.1,hk⟩
   ·exact h.elim
  ·exact h.elim
 ·exact ⟨_,h.2,fun σ' hs K' hk=>by unfold vwP;exact ⟨h.1,hk⟩⟩
 ·exact h.elim
 ·rename_i h1 h2 h3;split at h
  ·rename_i x' l hv;refine ⟨_,h.2,fun σ' hs K' hk => ?_⟩;unfold vwP;split
   ·exact (h1 _ _ _ _ rfl).elim
   ·exact (h2 _ rfl).elim
   ·exact (h3 _ _ _ rfl).elim
   ·rw [vc_loc hv σ' hs];exact ⟨h.1,hk⟩
  ·exact h.elim
theorem vwL_loc:∀ {ps xs:List PV} {K:List Nat→Prop},vwL σ ps xs K→∃ l,K l∧∀ σ':St,(∀ i∈l,σ'.slot i=σ.slot i)→∀ K':List Nat→Prop,K' l→vwL σ' ps xs K'
 | [],[],K,h=>⟨[],h,fun _ _ _ k=>k⟩
 | [],_::_,K,h=>h.elim
 | _::_,[],K,h=>h.elim
 | p::ps,x::xs,K,h=>by
  obtain ⟨l,h1,e1⟩:=vwP_loc h;obtain ⟨l',h2,e2⟩:=vwL_loc h1;exact ⟨l++l',h2,fun σ' hs K' hk=>e1 σ' (fun i hi=>hs i (by simp [hi])) _ (e2 σ' (fun i hi=>hs i (by simp [hi])) _ hk)⟩
theorem vc1_loc {p p':PV} {l:List Nat} (h:vc1 σ p=some (p',l)) (σ':St) (hs:∀ i∈l,σ'.slot i=σ.slot i):vc1 σ' p=some (p',l):=by
 unfold vc1 at h ⊢;split at h
 ·rename_i id full e j;split at h
  ·rename_i B hB;split at h
   ·rename_i hf;split at h
    ·rename_i c hc;split at h
     ·rename_i c' l' hv;simp only [osi,Prod.mk.injEq] at h;obtain ⟨rfl,rfl⟩:=h;simp only [hs id (by simp),hB,if_pos hf,hc];rw [vcL_loc hv σ' fun i hi=>hs i (by simp [hi])]
     ·cases h
    ·cases h
   ·cases h
  ·cases h
 ·exact vc_loc h σ' hs
theorem vcL1_loc:∀ {ps qs:List PV} {l:List Nat},vcL1 σ ps=some (qs,l)→∀ σ':St,(∀ i∈l,σ'.slot i=σ.slot i)→vcL1 σ' ps=some (qs,l)
 | [],qs,l,h,σ',hs=>h
 | p::ps,qs,l,h,σ',hs=>by
  simp only [vcL1] at h ⊢;split at h
  ·rename_i q i qs' is' h1 h2;simp only [osi,Prod.mk.injEq] at h;obtain ⟨rfl,rfl⟩:=h;rw [vc1_loc h1 σ' fun j hj=>hs j (by simp [hj]),vcL1_loc h2 σ' fun j hj=>hs j (by simp [hj])]
  ·cases h
theorem vwQ_loc {p x:PV} {K:List Nat→Prop} (h:vwQ σ p x K):∃ l,K l∧∀ σ':St,(∀ i∈l,σ'.slot i=σ.slot i)→∀ K':List Nat→Prop,K' l→vwQ σ' p x K':=by
 unfold vwQ at h;split at h
 ·rename_i id full e j;split at h
  ·rename_i B hB;obtain ⟨hf,c,hc,h⟩:=h;split at h
   ·rename_i c' l hv;refine ⟨_,h.2,fun σ' hs K' hk => ?_⟩;unfold vwQ;simp only;rw [hs id (by simp),hB];refine ⟨hf,c,hc,?_⟩;rw [vcL1_loc hv σ' fun i hi=>hs i (by simp [hi])];exact ⟨h.1,hk⟩
   ·exact h.elim
  ·exact h.elim
 ·rename_i h1;obtain ⟨l,k1,k2⟩:=vwP_loc h;refine ⟨l,k1,fun σ' hs K' hk => ?_⟩;have:=k2 σ' hs K' hk;cases p with
  | ptr=>exact (h1 _ _ _ _ rfl).elim
  | _=>exact this
theorem vwQL_loc:∀ {ps xs:List PV} {K:List Nat→Prop},vwQL σ ps xs K→∃ l,K l∧∀ σ':St,(∀ i∈l,σ'.slot i=σ.slot i)→∀ K':List Nat→Prop,K' l→vwQL σ' ps xs K'
 | [],[],K,h=>⟨[],h,fun _ _ _ k=>k⟩
 | [],_::_,K,h=>h.elim
 | _::_,[],K,h=>h.elim
 | p::ps,x::xs,K,h=>by
  obtain ⟨l,h1,e1⟩:=vwQ_loc h;obtain ⟨l',h2,e2⟩:=vwQL_loc h1;exact ⟨l++l',h2,fun σ' hs K' hk=>e1 σ' (fun i hi=>hs i (by simp [hi])) _ (e2 σ' (fun i hi=>hs i (by simp [hi])) _ hk)⟩
theorem vwN_loc {p x:PV} {K:List Nat→Prop} (h:vwN σ p x K):∃ l,K l∧∀ σ':St,(∀ i∈l,σ'.slot i=σ.slot i)→∀ K':List Nat→Prop,K' l→vwN σ' p x K':=by
 obtain ⟨f,ps,xs,e1,e2,h⟩:=h;obtain ⟨l,k1,k2⟩:=vwQL_loc h;exact ⟨l,k1,fun σ' hs K' hk=>⟨f,ps,xs,e1,e2,k2 σ' hs K' hk⟩⟩
theorem vwR_loc {r x:R1} {K:List Nat→Prop} (h:vwR σ r x K):∃ l,K l∧∀ σ':St,(∀ i∈l,σ'.slot i=σ.slot i)→∀ K':List Nat→Prop,K' l→vwR σ' r x K':=by
 cases r with
 | one p=>cases x with
  | one x =>
   rcases h with h|h
   ·obtain ⟨l,k1,k2⟩:=vwP_loc h;exact ⟨l,k1,fun σ' hs K' hk=>.inl (k2 σ' hs K' hk)⟩
   ·obtain ⟨l,k1,k2⟩:=vwN_loc h;exact ⟨l,k1,fun σ' hs K' hk=>.inr (k2 σ' hs K' hk)⟩
  | agg m=>exact h.elim
 | agg l=>cases x with
  | one x=>exact h.elim
  | agg m=>exact vwL_loc h
theorem takeP_loc {p p':PV} {l:List Nat} (h:takeP σ p=some (p',l)) (σ':St) (hs:∀ i∈l,σ'.slot i=σ.slot i):takeP σ' p=some (p',l):=by
 unfold takeP at h ⊢;split at h
 ·rename_i id lo len full;split at h
  ·rename_i B hB;split at h
   ·rename_i hf;simp only [osi,Prod.mk.injEq] at h;obtain ⟨rfl,rfl⟩:=h;rw [hs id (by simp),hB];simp [hf]
   ·cases h
  ·cases h
 ·cases h
 ·exact h
theorem mix_loc {ps qs:List PV} {i l:List Nat} (h:Mix σ ps qs i l) (σ':St):(∀ j∈i++l,σ'.slot j=σ.slot j)→Mix σ' ps qs i l:=by
 induction h with
 | nil=>intro _;exact .nil
 | tk ht t ih=>intro hs;exact .tk (takeP_loc ht σ' fun j hj=>hs j (by simp [hj])) (ih fun j hj=>hs j (by simp only [lma] at hj ⊢;rcases hj with k|k;exact .inl (.inr k);exact .inr k))
 | vw hv hq t ih=>intro hs;exact .vw (vc_loc hv σ' fun j hj=>hs j (by simp [hj])) hq (ih fun j hj=>hs j (by simp only [lma] at hj ⊢;rcases hj with k|k;exact .inl k;exact .inr (.inr k)))
 | ig t ih=>intro hs;exact .ig (ih hs)
theorem mixR_loc {r x:R1} {i l:List Nat} (h:MixR σ r x i l) (σ':St) (hs:∀ j∈i++l,σ'.slot j=σ.slot j):MixR σ' r x i l:=by
 cases r with
 | one p=>cases x with
  | one q=>exact mix_loc h σ' hs
  | agg _=>exact h.elim
 | agg m=>cases x with
  | one q=>exact h.elim
  | agg _=>exact mix_loc h σ' hs
theorem callPrep_loc:∀ {is:List RV} {as:List Arg} {K:List Nat→List Nat→List (Nat×Slot)→Prop},callPrep σ is as K→∃ tk ln wr,K tk ln wr∧∀ σ':St,(∀ i∈ln++(tk++wr.map (·.1)),σ'.slot i=σ.slot i) →
  ∀ K':List Nat→List Nat→List (Nat×Slot)→Prop,K' tk ln wr→callPrep σ' is as K'
 | [],[],K,h=>⟨[],[],[],h,fun _ _ _ k=>k⟩
 | [],_::_,K,h=>h.elim
 | _::_,[],K,h=>h.elim
 | ix::is,.v x::as,K,h=>by
  obtain ⟨hn,h⟩:=h;split at h
  ·rename_i r;obtain ⟨x',hn',him,h⟩:=h;obtain ⟨l,h1,e1⟩:=vwR_loc h;obtain ⟨tk,ln,wr,h2,e2⟩:=callPrep_loc h1;refine ⟨tk,l++ln,wr,h2,fun σ' hs K' hk => ?_⟩;simp only [callPrep];refine ⟨hn,x',hn',him,?_⟩;exact e1 σ' (fun i hi=>hs i (by simp [hi])) _ (e2 σ' (fun i hi=>hs i (by simp only [lma] at hi ⊢;rcases hi with k|k;exact .inl (.inr k);exact .inr k)) _ hk)
  ·exact h.elim
 | ix::is,.o x::as,K,h=>by
  obtain ⟨hn,h⟩:=h;split at h
  ·rename_i r;obtain ⟨i,l,hm,h⟩:=h;obtain ⟨tk,ln,wr,h2,e2⟩:=callPrep_loc h;refine ⟨i++tk,l++ln,wr,h2,fun σ' hs K' hk => ?_⟩;simp only [callPrep];refine ⟨hn,i,l,mixR_loc hm σ' (fun j hj=>hs j (by simp only [lma] at hj ⊢;rcases hj with k|k;exact .inr (.inl (.inl k));exact .inl (.inl k))),?_⟩;exact e2 σ' (fun j hj=>hs j (by simp only [lma] at hj ⊢;rcases hj with k|k|k;exact .inl (.inr k);exact .inr (.inl (.inr k));exact .inr (.inr k))) _ hk
  ·exact h.elim
 | ix::is,.w c c'::as,K,h=>by
  obtain ⟨hn,h⟩:=h;split at h
  ·rename_i id full e j hx;split at h
   ·rename_i B hB;obtain ⟨hf,ce,h1,h3,h4,h5,h⟩:=h;obtain ⟨tk,ln,wr,h2,e2⟩:=callPrep_loc h;refine ⟨tk,ln,_,h2,fun σ' hs K' hk => ?_⟩;simp only [callPrep];refine ⟨hn,?_⟩;rw [hx];simp only;rw [hs id (by simp),hB];exact ⟨hf,ce,h1,h3,h4,h5,e2 σ' (fun j hj=>hs j (by simp only [List.map_cons,lma,List.mem_cons] at hj ⊢;rcases hj with k|k|k;exact .inl k;exact .inr (.inl k);exact .inr (.inr (.inr k)))) _ hk⟩
   ·exact h.elim
  ·exact h.elim
theorem callK_loc {f:FuncId} {is:List RV} {K:Eff→Prop} (h:callK P σ b f is K):∃ E,K E∧∀ σ':St,(∀ i∈E.rd++E.wh.map (·.1),σ'.slot i=σ.slot i)→callK P σ' b f is (·=E):=by
 obtain ⟨args,res,hc,hp⟩:=h;obtain ⟨tk,ln,wr,⟨h1,h2,h3,h4,h5,h6,h7⟩,e⟩:=callPrep_loc hp;refine ⟨_,h7,fun σ' hl=>⟨args,res,hc,e σ' (fun i hi=>hl i (lma.2 (.inl hi))) _ ⟨h1,h2,h3,fun i hi => ?_,h5,fun y hy => ?_,rfl⟩⟩⟩
 ·rw [hl i (by simp [hi])];exact h4 i hi
 ·rw [hl y.1 (lma.2 (.inr (List.mem_map.2 ⟨y,by simp [hy],rfl⟩)))];exact h6 y hy
theorem map_ev_loc {l:List Ix} (hl:∀ x∈l,σ'.ev x=σ.ev x):l.map σ'.ev=l.map σ.ev:=List.map_congr_left hl
theorem opK_loc {k:AK} {K:Eff→Prop} (h:opK P σ b k K):∃ E,K E∧∀ σ':St,Loc σ σ' k.ixs (E.rd++E.wh.map (·.1))→opK P σ' b k (·=E):=by
 cases hk:k.own with
 | true =>
  have he:effK σ b k K∨∃ k' zs ps,k=.bsl k' 1 zs ps∧bslT σ b k' zs ps K:=by
   cases k with
   | bsl k' n zs ps =>
    rcases h with h|⟨rfl,h⟩
    ·exact .inl h
    ·exact .inr ⟨_,_,_,rfl,h⟩
   | _=>first|exact .inl h|cases hk
  rcases he with he|⟨k',zs,ps,rfl,he⟩
  ·obtain ⟨E,h1,h2⟩:=effK_loc he;exact ⟨E,h1,fun σ' hl=>by have:=h2 σ' hl;cases k<;>first|exact this|exact .inl this|cases hk⟩
  ·obtain ⟨E,⟨kids,c,rfl,hf,hK⟩,h2⟩:=effK_loc he;refine ⟨_,hK,fun σ' hl=>.inr ⟨rfl,?_⟩⟩;have h3:=h2 σ' ⟨hl.ev,fun i hi=>hl.slot i (by simp at hi ⊢;exact .inl hi)⟩;unfold bslT;simp only [effK] at h3 ⊢;refine ⟨h3.1,effK_loc.setElems_mono h3.2 fun l hE => ?_⟩;rw [hE];exact ⟨kids,c,rfl,fun y hy=>⟨by rw [hl.slot y.1 (by simp;exact .inr ⟨_,hy⟩)];exact (hf y hy).1,(hf y hy).2⟩,rfl⟩
 | false =>
  cases k with
  | call f l =>
   rcases h with h|h
   ·obtain ⟨E,h1,h2⟩:=callK_loc h;refine ⟨E,h1,fun σ' hl => ?_⟩;simp only [opK];rw [map_ev_loc (σ:=σ) (l:=l) hl.ev];exact .inl (h2 σ' hl.slot)
   ·obtain ⟨args,c,hc,hall,hp⟩:=h;obtain ⟨tk,ln,wr,⟨rfl,rfl,rfl,hf,hn,hK⟩,e⟩:=callPrep_loc hp;refine ⟨_,hK,fun σ' hl => ?_⟩;simp only [opK];rw [map_ev_loc (σ:=σ) (l:=l) hl.ev];exact .inr ⟨args,c,hc,hall,e σ' (by simp) _ ⟨rfl,rfl,rfl,by rw [hl.slot b (by simp)];exact hf,hn,rfl⟩⟩
  | clo x l =>
   simp only [opK] at h;split at h
   ·rename_i f m hm;obtain ⟨E,h1,h2⟩:=callK_loc h;refine ⟨E,h1,fun σ' hl => ?_⟩;simp only [opK];rw [hl.ev1 (x:=x) (by simp [AK.ixs]),hm];simp only;rw [map_ev_loc fun y hy=>hl.ev y (by simp [AK.ixs,hy])];exact h2 σ' hl.slot
   ·exact h.elim
  | _=>cases hk
end
structure Tr where
 d:Option Nat
 v:RV
 wh:List (Nat×Slot)
 rs:List Nat
 sl:List Nat
def Tr.run (t:Tr) (σ:St):St:=(setSlots σ t.wh).putO t.d t.v
def ixRegs:List Ix→List Nat
 | []=>[]
 | .t n::r=>n::ixRegs r
 | .k _::r=>ixRegs r
def stepTK (P:Program) (σ:St) (b:Nat) (x:AOp) (K:Tr→Prop):Prop :=
 match x.g with
 | none=>opK P σ b x.k fun E=>K ⟨x.d,E.v,E.wh,ixRegs x.k.ixs,E.rd++E.wh.map (·.1)⟩
 | some (d,t)=>match σ.reg d with
  | .r (.one (.b v))=>(v=t→opK P σ b x.k fun E=>K ⟨x.d,E.v,E.wh,d::ixRegs x.k.ixs,E.rd++E.wh.map (·.1)⟩)∧(v≠t→K ⟨x.d,.tup [],[],[d],[]⟩)
  | .tup []=>K ⟨x.d,.tup [],[],[d],[]⟩
  | _=>False
def dregK (P:Program):List AOp→St→(List Tr→Prop)→Prop
 | [],σ,K=>K []
 | x::r,σ,K=>stepTK P σ σ.H.length x fun t=>dregK P r (t.run σ) fun ts=>K (t::ts)
def runP:(Nat→Bool)→List Tr→St→St
 | _,[],σ=>σ
 | p,t::ts,σ=>runP (fun i=>p (i+1)) ts (if p 0 then t.run σ else σ)
section
variable {P:Program} {σ σ':St} {b:Nat} {is:List Ix} {sl:List Nat}
theorem ixRegs_ev:∀ {is:List Ix},(∀ r∈ixRegs is,σ'.reg r=σ.reg r)→∀ x∈is,σ'.ev x=σ.ev x
 | .t n::is,h,x,hx=>by
  rcases List.mem_cons.1 hx with rfl|hx
  ·exact h n (by simp [ixRegs])
  ·exact ixRegs_ev (fun r hr=>h r (by simp [ixRegs,hr])) x hx
 | .k y::is,h,x,hx=>by
  rcases List.mem_cons.1 hx with rfl|hx
  ·rfl
  ·exact ixRegs_ev (is:=is) h x hx
def wantA (σ:St) (x:AOp):Option Bool :=
 match x.g with
 | none=>some true
 | some (d,t)=>match σ.reg d with
  | .r (.one (.b v))=>some (v==t)
  | .tup []=>some false
  | _=>none
def Does (P:Program) (b:Nat) (x:AOp) (t:Tr) (σ:St):Prop :=
 t.d=x.d∧((wantA σ x=some true∧∃ E:Eff,t.v=E.v∧t.wh=E.wh∧opK P σ b x.k (·=E))∨(wantA σ x=some false∧t.v=.tup []∧t.wh=[]))
theorem stepTK_loc {x:AOp} {K:Tr→Prop} (h:stepTK P σ b x K):∃ t,K t∧(∀ i∈t.wh.map (·.1),i∈t.sl)∧∀ σ':St,(∀ r∈t.rs,σ'.reg r=σ.reg r)→(∀ i∈t.sl,σ'.slot i=σ.slot i)→Does P b x t σ':=by
 unfold stepTK at h;split at h
 ·rename_i hg;obtain ⟨E,h1,h2⟩:=opK_loc h;refine ⟨_,h1,fun i hi=>by simp only [lma];exact .inr hi,fun σ' hr hs=>⟨rfl,.inl ⟨by simp [wantA,hg],E,rfl,rfl,h2 σ' ⟨ixRegs_ev hr,hs⟩⟩⟩⟩
 ·rename_i d t hg;split at h
  ·rename_i v hv;by_cases e:v=t
   ·obtain ⟨E,h1,h2⟩:=opK_loc (h.1 e);refine ⟨_,h1,fun i hi=>by simp only [lma];exact .inr hi,fun σ' hr hs=>⟨rfl,.inl ⟨?_,E,rfl,rfl,h2 σ' ⟨ixRegs_ev fun r hr'=>hr r (by simp [hr']),hs⟩⟩⟩⟩;have:σ'.reg d=σ.reg d:=hr d (by simp);simp [wantA,hg,this,hv,e]
   ·refine ⟨_,h.2 e,by simp,fun σ' hr hs=>⟨rfl,.inr ⟨?_,rfl,rfl⟩⟩⟩;have:σ'.reg d=σ.reg d:=hr d (by simp);simp [wantA,hg,this,hv,e]
  ·rename_i hv;refine ⟨_,h,by simp,fun σ' hr hs=>⟨rfl,.inr ⟨?_,rfl,rfl⟩⟩⟩;have:σ'.reg d=σ.reg d:=hr d (by simp);simp [wantA,hg,this,hv]
  ·exact h.elim
variable {G:Fr} {X:Ctx} {F:Nat→List Nat} {a:Act} {acts:List Act} {w:World} {o:Oper}
theorem does_sound (h:SimW G X F σ (a::acts) w) {ops:Array Oper} {x:AOp} {n i:Nat} {t:Tr} {Q:Exit→Act→World→Prop} {next:Act→World→Prop} (hi:ops[i]? = some o) (hn:σ.env.n=n) (hc:cop P ops n o=some x) (hd:Does P b x t σ)
  (hnext:∀ a' w',Sim G (t.run σ) (a'::acts) w'→next a' w') :
  if Region.wanted o (yielded ops a.tmps) then o.wp P a w next Q∨(o.asks P a w∧LetsOut Q) else next (a.put o.dst undef) w:=by
 unfold cop at hc;split at hc
 case h_2=>cases hc
 rename_i k hk0;split at hc
 case isFalse=>cases hc
 rename_i hdst;obtain ⟨htd,hd⟩:=hd;have hgx:x.d=o.dst∧x.k=k∧(match o.guard with
   | none=>x.g=none
   | some (j,t)=>∃ d,(ops[j]?).bind (·.dst)=some d∧x.g=some (d,t)):=by
  cases hg:o.guard with
  | none=>rw [hg] at hc;simp only [osi] at hc;subst hc;exact ⟨rfl,rfl,rfl⟩
  | some jt =>
   obtain ⟨j,t⟩:=jt;rw [hg] at hc;simp only at hc;split at hc
   ·rename_i d hj;simp only [osi] at hc;subst hc;exact ⟨rfl,rfl,d,hj,rfl⟩
   ·cases hc
 obtain ⟨e1,e2,e3⟩:=hgx;have hwant:∀ z,wantA σ x=some z→Region.wanted o (yielded ops a.tmps)=z:=by
  intro z hz;cases hg:o.guard with
  | none =>
   rw [hg] at e3;simp only at e3;simp only [wantA,e3,osi] at hz;subst hz;simp [Region.wanted,hg]
  | some jt =>
   obtain ⟨j,t⟩:=jt;rw [hg] at e3;obtain ⟨d,hj,e3⟩:=e3;have hr:=h.reg d;have hy:=yielded_of hj a.tmps;simp only [wantA,e3] at hz;split at hz
   ·rename_i v hv;rw [hv] at hr;have:a.tmps.getD d undef=.bool v:=RC.b_inv hr;rw [this] at hy;simp only [osi] at hz;subst hz;simp only [Region.wanted,hg,hy];cases v<;>cases t<;>rfl
   ·rename_i hv;rw [hv] at hr;obtain ⟨vs,q1,q2,_⟩:=hr;have:a.tmps.getD d undef=.tuple #[]:=by
     rw [q1];have:vs=[]:=List.eq_nil_of_length_eq_zero (by simpa using q2.symm);subst this;rfl
    rw [this] at hy;simp only [osi] at hz;subst hz;simp [Region.wanted,hg,hy]
   ·cases hz
 rcases hd with ⟨hw,E,v1,v2,hop⟩|⟨hw,v1,v2⟩
 ·rw [if_pos (hwant true hw)];refine .inl ?_;rw [e2] at hop;obtain ⟨E',rfl,hS⟩:=sound_op h hk0 hop;refine hS next Q fun v w' X1 F1 hs hv=>hnext _ _ ?_
  refine ⟨X1,F1,?_⟩;unfold Tr.run;rw [htd,e1,v1,v2];exact hs.putO hv (by rw [setSlots_n,hn];exact hdst)
 ·rw [if_neg (by rw [hwant false hw];simp)];refine hnext _ _ ⟨X,F,?_⟩;unfold Tr.run;rw [htd,e1,v1,v2];exact h.putO ⟨[],rfl,rfl,by simp⟩ (by rw [hn];exact hdst)
end
def val (σ:St):Nat⊕Nat→RV⊕Slot
 | .inl r=>.inl (σ.reg r)
 | .inr i=>.inr (σ.slot i)
def Tr.wr (t:Tr):Nat⊕Nat→Bool
 | .inl r=>t.d==some r
 | .inr i=>(t.wh.map (·.1)).contains i
def Tr.wv (t:Tr) (l:Nat⊕Nat):RV⊕Slot:=val (t.run ⟨⟨0,[]⟩,[],[]⟩) l
theorem setSlots_key:∀ {l:List (Nat×Slot)} {σ σ':St} {i:Nat},i∈l.map (·.1)→(setSlots σ l).slot i=(setSlots σ' l).slot i
 | (j,s)::l,σ,σ',i,h=>by
  simp only [setSlots];by_cases e:i∈l.map (·.1)
  ·exact setSlots_key e
  ·have hij:i=j:=by simpa [e] using h
   rw [setSlots_not e,setSlots_not e,St.slot_setSlot,St.slot_setSlot,if_pos hij,if_pos hij]
theorem putO_slot (σ:St) (d:Option Nat) (v:RV) (i:Nat):(σ.putO d v).slot i=σ.slot i:=by cases d<;>rfl
theorem putO_reg (σ:St) (d:Option Nat) (v:RV) (r:Nat):(σ.putO d v).reg r=if d=some r then v else σ.reg r:=by
 cases d with
 | none=>simp [St.putO]
 | some t =>
  show look ((t,v)::σ.env.l) r=_;simp only [look];by_cases e:r=t
  ·subst e;simp
  ·have:¬ (t=r):=fun k=>e k.symm
   simp [e,this];rfl
theorem val_run (t:Tr) (σ:St) (l:Nat⊕Nat):val (t.run σ) l=if t.wr l=true then t.wv l else val σ l:=by
 cases l with
 | inl r =>
  simp only [val,Tr.wv,Tr.run,putO_reg,Tr.wr];by_cases e:t.d=some r
  ·simp [e]
  ·simp only [e,if_false,beq_iff_eq];unfold St.reg;rw [(setSlots_env t.wh σ).1]
 | inr i =>
  simp only [val,Tr.wv,Tr.run,putO_slot,Tr.wr];by_cases e:i∈t.wh.map (·.1)
  ·rw [if_pos (by simpa using e)];rw [setSlots_key e]
  ·rw [if_neg (by simpa using e),setSlots_not e]
theorem runP_agree:∀ (ts:List Tr) (p q:Nat→Bool) (σ σ':St) (l:Nat⊕Nat),(∀ (i:Nat) (t:Tr),ts[i]? = some t→t.wr l=true→p i=q i)→val σ l=val σ' l→val (runP p ts σ) l=val (runP q ts σ') l
 | [],p,q,σ,σ',l,_,h=>h
 | t::ts,p,q,σ,σ',l,hp,h=>by
  simp only [runP];refine runP_agree ts _ _ _ _ l (fun i u hu hw=>hp (i+1) u (by simpa using hu) hw) ?_;by_cases hw:t.wr l=true
  ·have:=hp 0 t rfl hw;rw [← this];cases p 0
   ·exact h
   ·simp only [if_true];rw [val_run,val_run,if_pos hw,if_pos hw]
  ·have e:∀ (z:Bool) (σ:St),val (if z=true then t.run σ else σ) l=val σ l:=by
    intro z σ;cases z
    ·rfl
    ·simp only [if_true];rw [val_run,if_neg hw]
   rw [e,e];exact h
theorem runP_none:∀ (ts:List Tr) (σ:St),runP (fun _=>false) ts σ=σ
 | [],σ=>rfl
 | t::ts,σ=>by simp only [runP];exact runP_none ts σ
theorem runP_last:∀ (ts:List Tr) (p:Nat→Bool) (σ:St) (l:Nat⊕Nat) (i:Nat) (t:Tr),ts[i]? = some t→p i=true→t.wr l=true→(∀ (j:Nat) (u:Tr),i<j→ts[j]? = some u→p j=true→u.wr l=false)→val (runP p ts σ) l=t.wv l
 | u::ts,p,σ,l,0,t,ht,hp,hw,hl=>by
  simp at ht;subst ht;simp only [runP,hp,if_true];rw [runP_agree ts _ (fun _=>false) _ (u.run σ) l (fun j v hv hvw => ?_) rfl,runP_none,val_run,if_pos hw];cases e:p (j+1)
  ·rfl
  ·have:=hl (j+1) v (by omega) (by simpa using hv) e;rw [hvw] at this;cases this
 | u::ts,p,σ,l,i+1,t,ht,hp,hw,hl=>by
  simp only [runP];exact runP_last ts _ _ l i t (by simpa using ht) hp hw fun j v hj hv hpj=>hl (j+1) v (by omega) (by simpa using hv) hpj
theorem runP_insert (ts:List Tr) (p q:Nat→Bool) (σ:St) (l:Nat⊕Nat) (i:Nat) (t:Tr) (ht:ts[i]? = some t) (hq:∀ j,q j=(j==i||p j)) (hl:∀ (j:Nat) (u:Tr),i<j→ts[j]? = some u→p j=true→u.wr l=true→t.wr l=false) :
  val (runP q ts σ) l=val (t.run (runP p ts σ)) l:=by
 rw [val_run];by_cases hw:t.wr l=true
 ·rw [if_pos hw];refine runP_last ts q σ l i t ht (by rw [hq];simp) hw fun j u hj hu hqj => ?_
  rw [hq] at hqj;have hji:(j==i)=false:=by simp;omega
  rw [hji,Bool.false_or] at hqj;cases e:u.wr l
  ·rfl
  ·have:=hl j u hj hu hqj e;rw [hw] at this;cases this
 ·rw [if_neg hw];refine runP_agree ts q p σ σ l (fun j u hu huw => ?_) rfl;rw [hq];by_cases e:j=i
  ·subst e;rw [ht] at hu;injection hu with hu;subst hu;exact (hw huw).elim
  ·simp [e]
section
variable {G:Fr} {σ σ':St} {acts:List Act} {w:World}
theorem Sim.ext (h:Sim G σ acts w) (hv:∀ l,val σ l=val σ' l) (hn:σ.env.n=σ'.env.n) (hs:σ.sus=σ'.sus):Sim G σ' acts w:=by
 obtain ⟨X,F,h⟩:=h;have hreg:∀ r,σ.reg r=σ'.reg r:=fun r=>by have:=hv (.inl r);simpa [val] using this
 have hslot:∀ i,σ.slot i=σ'.slot i:=fun i=>by have:=hv (.inr i);simpa [val] using this
 refine ⟨X,F,?_⟩;exact {
     hH:=fun i=>(h.hH i).trans (hslot i),hτ:=h.hτ,hN:=h.hN,gok:=h.gok,blk:=h.blk,nd:=h.nd,dj:=h.dj,lt:=h.lt,src:=h.src,kept:=h.kept,win:=h.win,
     envs:=by
      cases hh:h.envs with
      | cons e t =>
       rw [hs] at t;exact .cons ⟨e.defers,e.size.trans hn,fun r=>by have:=e.reg r;rw [show σ'.env.get r=σ.env.get r from (hreg r).symm];exact this⟩ t }
end
def meets (a b:List Nat):Bool:=a.any fun x=>b.contains x
def conflict (t u:Tr):Bool :=
 meets t.d.toList (u.d.toList++u.rs)||meets u.d.toList t.rs||meets (t.wh.map (·.1)) u.sl||meets (u.wh.map (·.1)) t.sl
def reach (ord:List (List Nat)):Nat→Nat→Nat→Bool
 | 0,_,_=>false
 | d+1,j,i=>((ord[j]?).getD []).any fun e=>e==i||reach ord d e i
def okPairs (d:Nat) (ord:List (List Nat)) (ts:List Tr):Bool :=
 (List.range ts.length).all fun j=>(List.range j).all fun i=>match ts[i]?,ts[j]? with
  | some t,some u => !(conflict t u)||reach ord d j i
  | _,_=>true
def okOrd (ord:List (List Nat)):Bool:=(List.range ord.length).all fun i=>((ord[i]?).getD []).all fun e=>decide (e<i)
section
variable {P:Program} {G:Fr} {σ σ':St} {acts:List Act} {w:World}
theorem meets_of {a b:List Nat} {x:Nat} (h1:x∈a) (h2:x∈b):meets a b=true:=by
 simp only [meets,List.any_eq_true];exact ⟨x,h1,by simpa using h2⟩
theorem dreg_text:∀ {xs:List AOp} {σ:St} {K:List Tr→Prop},dregK P xs σ K→∃ ts,K ts∧ts.length=xs.length∧∀ (i:Nat) (x:AOp) (t:Tr),xs[i]? = some x→ts[i]? = some t→(∀ k∈t.wh.map (·.1),k∈t.sl) ∧
  ∃ b,∀ σ':St,(∀ r∈t.rs,σ'.reg r=(runP (fun j=>decide (j<i)) ts σ).reg r)→(∀ k∈t.sl,σ'.slot k=(runP (fun j=>decide (j<i)) ts σ).slot k)→Does P b x t σ'
 | [],σ,K,h=>⟨[],h,rfl,by simp⟩
 | x::xs,σ,K,h=>by
  obtain ⟨t,h1,h2,h3⟩:=stepTK_loc h;obtain ⟨ts,k1,k2,k3⟩:=dreg_text h1;refine ⟨t::ts,k1,by simp [k2],fun i y u hy hu => ?_⟩;cases i with
  | zero =>
   simp only [List.getElem?_cons_zero,osi] at hy hu;subst hy hu;refine ⟨h2,_,fun σ' hr hs=>h3 σ' (fun r hr' => ?_) fun k hk => ?_⟩
   ·have:=hr r hr';simpa [runP,runP_none] using this
   ·have:=hs k hk;simpa [runP,runP_none] using this
  | succ i =>
   obtain ⟨m1,b,m2⟩:=k3 i y u (by simpa using hy) (by simpa using hu);refine ⟨m1,b,fun σ' hr hs=>m2 σ' (fun r hr' => ?_) fun k hk => ?_⟩
   ·have:=hr r hr';simpa [runP] using this
   ·have:=hs k hk;simpa [runP] using this
theorem reach_closed {ord:List (List Nat)} {S:Nat→Bool} (hc:∀ i,S i=true→∀ e∈(ord[i]?).getD [],S e=true):∀ (d j i:Nat),S j=true→reach ord d j i=true→S i=true
 | 0,j,i,_,h=>by simp [reach] at h
 | d+1,j,i,hj,h=>by
  simp only [reach,List.any_eq_true,Bool.or_eq_true,beq_iff_eq] at h;obtain ⟨e,he,h⟩:=h;rcases h with rfl|h
  ·exact hc j hj e he
  ·exact reach_closed hc d e i (hc j hj e he) h
theorem okPairs_spec {d:Nat} {ord:List (List Nat)} {ts:List Tr} (h:okPairs d ord ts=true) {i j:Nat} {t u:Tr} (hij:i<j) (ht:ts[i]? = some t) (hu:ts[j]? = some u) (hc:conflict t u=true):reach ord d j i=true:=by
 simp only [okPairs,List.all_eq_true,List.mem_range] at h;have:=h j (List.getElem?_eq_some_iff.1 hu).1 i hij;rw [ht,hu] at this;simpa [hc] using this
theorem any_sound {ops:Array Oper} {n d:Nat} {xs:List AOp} {ts:List Tr} {ord:List (List Nat)} {σ0:St} {Q:Exit→Act→World→Prop} (hxs:cops P ops n ops.toList=some xs) (hord:ord=ops.toList.map fun o=>(o.after.toList.filter (Region.binds .any)).map (·.on))
  (hlen:ts.length=ops.size) (hxl:xs.length=ops.size) (hx:∀ (i:Nat) (o:Oper) (x:AOp),ops[i]? = some o→xs[i]? = some x→cop P ops n o=some x)
  (hoo:okOrd ord=true) (hop:okPairs d ord ts=true)
  (htx:∀ (i:Nat) (x:AOp) (t:Tr),xs[i]? = some x→ts[i]? = some t→(∀ k∈t.wh.map (·.1),k∈t.sl)∧∃ b,∀ σ':St,(∀ r∈t.rs,σ'.reg r=(runP (fun j=>decide (j<i)) ts σ0).reg r)→(∀ k∈t.sl,σ'.slot k=(runP (fun j=>decide (j<i)) ts σ0).slot k)→Does P b x t σ')
  (hq:∀ a w,Sim G (runP (fun _=>true) ts σ0) (a::acts) w→Q .normal a w) :
  ∀ (fuel:Nat) (listed:Array Bool) (a:Act) (w:World) (σ:St),listed.size=ops.size→((List.range ops.size).filter fun i => !listed.getD i false).length≤fuel →
   (∀ i,listed.getD i false=true→∀ e∈(ord[i]?).getD [],listed.getD e false=true)→Sim G σ (a::acts) w→σ.env.n=n→n=σ0.env.n→σ.sus=σ0.sus →
   (∀ l,val σ l=val (runP (fun i=>listed.getD i false) ts σ0) l)→wpAny P .any ops Q fuel listed a w:=by
 have hordg:∀ (i:Nat) (o:Oper),ops[i]? = some o→(ord[i]?).getD []=(o.after.toList.filter (Region.binds .any)).map (·.on):=by
  intro i o ho;rw [hord,List.getElem?_map];simp [ho]
 have hol:ord.length=ops.size:=by rw [hord];simp
 have runP_n:∀ (ts:List Tr) (p:Nat→Bool) (σ:St),(runP p ts σ).env.n=σ.env.n∧(runP p ts σ).sus=σ.sus:=by
  intro ts;induction ts with
  | nil=>intro p σ;exact ⟨rfl,rfl⟩
  | cons t ts ih =>
   intro p σ;simp only [runP];obtain ⟨h1,h2⟩:=ih (fun i=>p (i+1)) (if p 0=true then t.run σ else σ);rw [h1,h2];cases p 0
   ·exact ⟨rfl,rfl⟩
   ·simp only [if_true,Tr.run];refine ⟨by rw [putO_n,setSlots_n],?_⟩;have:=(setSlots_env t.wh σ).2;cases t.d<;>exact this
 have done:∀ (listed:Array Bool),listed.size=ops.size→Region.ready .any ops listed=[]→∀ j,j<ops.size→listed.getD j false=true:=by
  intro listed hsz hr j;induction j using Nat.strongRecOn with
  | _ j ih =>
   intro hj;apply Classical.byContradiction;intro hne;have ho:=Array.getElem?_eq_getElem hj;have:j∈Region.ready .any ops listed:=by
    rw [mem_ready];refine ⟨?_,_,ho,fun e he hb => ?_⟩
    ·have hjl:j<listed.size:=by omega
     simp only [Array.getD_eq_getD_getElem?,Array.getElem?_eq_getElem hjl,Option.getD_some] at hne ⊢;simpa using hne
    ·have hm:e.on∈(ord[j]?).getD []:=by
      rw [hordg j _ ho];exact List.mem_map.2 ⟨e,List.mem_filter.2 ⟨by simpa using he,hb⟩,rfl⟩
     have hlt:e.on<j:=by
      simp only [okOrd,List.all_eq_true,List.mem_range] at hoo;have:=hoo j (by omega) e.on hm;simpa using this
     exact ih e.on hlt (by omega)
   rw [hr] at this;cases this
 have fin:∀ (listed:Array Bool) (a:Act) (w:World) (σ:St),listed.size=ops.size→Region.ready .any ops listed=[]→Sim G σ (a::acts) w→σ.env.n=n→n=σ0.env.n→σ.sus=σ0.sus→(∀ l,val σ l=val (runP (fun i=>listed.getD i false) ts σ0) l)→Q .normal a w:=by
  intro listed a w σ hsz hr hs hn hn0 hsus hv;have hall:=done listed hsz hr;refine hq a w (hs.ext (fun l => ?_) ?_ ?_)
  ·rw [hv l];refine runP_agree ts _ _ σ0 σ0 l (fun i t ht _ => ?_) rfl;exact hall i (by have:=(List.getElem?_eq_some_iff.1 ht).1;omega)
  ·rw [(runP_n ts _ σ0).1,hn,hn0]
  ·rw [(runP_n ts _ σ0).2,hsus]
 intro fuel;induction fuel with
 | zero =>
  intro listed a w σ hsz hcnt hcl hs hn hn0 hsus hv;have hr:Region.ready .any ops listed=[]:=by
   refine List.eq_nil_iff_forall_not_mem.2 fun j hj => ?_
   rw [mem_ready] at hj;obtain ⟨h1,o,ho,_⟩:=hj;have hjl:j<ops.size:=(Array.getElem?_eq_some_iff.1 ho).1;have:j∈(List.range ops.size).filter fun i => !listed.getD i false:=by
    rw [List.mem_filter];refine ⟨List.mem_range.2 hjl,?_⟩;have hjl':j<listed.size:=by omega
    simp only [Array.getD_eq_getD_getElem?,Array.getElem?_eq_getElem hjl',Option.getD_some] at h1 ⊢;simp [h1]
   have:=List.length_pos_of_mem this;omega
  exact ⟨hr,fin listed a w σ hsz hr hs hn hn0 hsus hv⟩
 | succ fuel ih =>
  intro listed a w σ hsz hcnt hcl hs hn hn0 hsus hv;refine ⟨fun hr=>fin listed a w σ hsz hr hs hn hn0 hsus hv,fun i hi => ?_⟩;rw [mem_ready] at hi;obtain ⟨hi1,o,ho,hi2⟩:=hi;have hil:i<ops.size:=(Array.getElem?_eq_some_iff.1 ho).1;have hil':i<listed.size:=by omega
  have hif:listed.getD i false=false:=by
   simp only [Array.getD_eq_getD_getElem?,Array.getElem?_eq_getElem hil',Option.getD_some] at hi1 ⊢;exact hi1
  have hxi:=List.getElem?_eq_getElem (show i<xs.length by omega);have hti:=List.getElem?_eq_getElem (show i<ts.length by omega);obtain ⟨hsub,b,hdoes⟩:=htx i _ _ hxi hti;have hdeps:∀ e∈(ord[i]?).getD [],listed.getD e false=true:=by
   intro e he;rw [hordg i o ho] at he;obtain ⟨ed,hed,rfl⟩:=List.mem_map.1 he;obtain ⟨h1,h2⟩:=List.mem_filter.1 hed;exact hi2 ed (by simpa using h1) h2
  have hreads:∀ l:Nat⊕Nat,(∀ (j:Nat) (u:Tr),ts[j]? = some u→u.wr l=true→(j<i→conflict u (ts[i]'(by omega))=true)∧(i<j→conflict (ts[i]'(by omega)) u=true))→val σ l=val (runP (fun j=>decide (j<i)) ts σ0) l:=by
   intro l hc;rw [hv l];refine runP_agree ts _ _ σ0 σ0 l (fun j u hu hw => ?_) rfl;obtain ⟨c1,c2⟩:=hc j u hu hw;rcases Nat.lt_trichotomy j i with hlt|rfl|hgt
   ·have hre:=okPairs_spec hop hlt hu hti (c1 hlt);have:listed.getD j false=true:=by
     cases d with
     | zero=>simp [reach] at hre
     | succ d =>
      simp only [reach,List.any_eq_true,Bool.or_eq_true,beq_iff_eq] at hre;obtain ⟨e,he,hre⟩:=hre;rcases hre with rfl|hre
      ·exact hdeps e he
      ·exact reach_closed (S:=fun i=>listed.getD i false) hcl d e j (hdeps e he) hre
    simp [this,hlt]
   ·simp [hif]
   ·have hre:=okPairs_spec hop hgt hti hu (c2 hgt);have:listed.getD j false=false:=by
     cases e:listed.getD j false
     ·rfl
     ·have:=reach_closed (S:=fun i=>listed.getD i false) hcl d j i e hre;rw [hif] at this;cases this
    have hnlt:¬ j<i:=by omega
    simp [this,hnlt]
  have hd:=hdoes σ (fun r hr=>by
   have:=hreads (.inl r) (fun j u hu hw=>by
    simp only [Tr.wr,beq_iff_eq] at hw;refine ⟨fun _ => ?_,fun _ => ?_⟩
    ·simp only [conflict,Bool.or_eq_true];exact .inl (.inl (.inl (meets_of (x:=r) (by simp [hw]) (by simp [hr]))))
    ·simp only [conflict,Bool.or_eq_true];exact .inl (.inl (.inr (meets_of (x:=r) (by simp [hw]) hr))))
   simpa [val] using this) (fun k hk=>by
   have:=hreads (.inr k) (fun j u hu hw=>by
    have hw':k∈u.wh.map (·.1):=by simpa [Tr.wr] using hw
    refine ⟨fun _ => ?_,fun _ => ?_⟩
    ·simp only [conflict,Bool.or_eq_true];exact .inl (.inr (meets_of hw' hk))
    ·simp only [conflict,Bool.or_eq_true];exact .inr (meets_of hw' hk))
   simpa [val] using this)
  obtain ⟨X,F,hs'⟩:=hs;unfold wpOp;rw [ho];refine does_sound hs' ho hn (hx i o _ ho hxi) hd fun a' w' hsim => ?_
  have hq2:∀ j,(listed.setIfInBounds i true).getD j false=(j==i||listed.getD j false):=by
   intro j;simp only [Array.getD_eq_getD_getElem?];by_cases e:j=i
   ·subst e;rw [Array.getElem?_setIfInBounds_self_of_lt hil'];simp
   ·rw [Array.getElem?_setIfInBounds_ne (fun k=>e k.symm)];simp [e]
  refine ih (listed.setIfInBounds i true) a' w' _ (by simpa using hsz) ?_ ?_ hsim ?_ hn0 ?_ fun l => ?_
  ·have hlt:((List.range ops.size).filter fun j => !(listed.setIfInBounds i true).getD j false).length<((List.range ops.size).filter fun j => !listed.getD j false).length:=by
    have heq:((List.range ops.size).filter fun j => !(listed.setIfInBounds i true).getD j false)=((List.range ops.size).filter fun j => !listed.getD j false).filter fun j => !(j==i):=by
     rw [List.filter_filter];congr 1
     funext j
     rw [hq2];cases (j==i)<;>simp
    rw [heq];exact List.length_filter_lt_length_iff_exists.2 ⟨i,List.mem_filter.2 ⟨List.mem_range.2 hil,by simp [hif]⟩,by simp⟩
   omega
  ·intro j hj e he;rw [hq2] at hj ⊢;by_cases ej:j=i
   ·subst ej;rw [hdeps e he];simp
   ·have:(j==i)=false:=by simpa using ej
    rw [this,Bool.false_or] at hj;rw [hcl j hj e he];simp
  ·show ((setSlots σ _).putO _ _).env.n=n;rw [putO_n,setSlots_n,hn]
  ·show ((setSlots σ (ts[i]'(by omega)).wh).putO (ts[i]'(by omega)).d (ts[i]'(by omega)).v).sus=_;have:=(setSlots_env (ts[i]'(by omega)).wh σ).2;have h2:∀ (d:Option Nat) (v:RV) (σ:St),(σ.putO d v).sus=σ.sus:=by intro d v σ;cases d<;>rfl
   rw [h2,this,hsus]
  ·have h1:val ((ts[i]'(by omega)).run σ) l=val ((ts[i]'(by omega)).run (runP (fun i=>listed.getD i false) ts σ0)) l:=by rw [val_run,val_run,hv l]
   rw [h1];refine (runP_insert ts _ _ σ0 l i _ hti hq2 fun j u hj hu hpj huw => ?_).symm;cases hw:(ts[i]'(by omega)).wr l
   ·rfl
   ·exfalso;have hcf:conflict (ts[i]'(by omega)) u=true:=by
     simp only [conflict,Bool.or_eq_true];cases l with
     | inl r =>
      simp only [Tr.wr,beq_iff_eq] at hw huw;exact .inl (.inl (.inl (meets_of (x:=r) (by simp [hw]) (by simp [huw]))))
     | inr k =>
      have hw':k∈(ts[i]'(by omega)).wh.map (·.1):=by simpa [Tr.wr] using hw
      have huw':k∈u.wh.map (·.1):=by simpa [Tr.wr] using huw
      exact .inr (meets_of huw' (hsub k hw'))
    have hre:=okPairs_spec hop hj hti hu hcf;have:=reach_closed (S:=fun i=>listed.getD i false) hcl d j i hpj hre;rw [hif] at this;cases this
end
section
variable {P:Program} {G:Fr} {σ σ':St} {acts:List Act} {w:World} {Q:Exit→St→Prop}
theorem cops_get {ops:Array Oper} {n:Nat}:∀ {l:List Oper} {xs:List AOp},cops P ops n l=some xs→xs.length=l.length∧∀ (i:Nat) (o:Oper) (x:AOp),l[i]? = some o→xs[i]? = some x→cop P ops n o=some x
 | [],xs,h=>by simp [cops] at h;subst h;simp
 | o::l,xs,h=>by
  simp only [cops] at h;split at h
  ·rename_i x xs' h1 h2;simp only [osi] at h;subst h;obtain ⟨k1,k2⟩:=cops_get h2;refine ⟨by simp [k1],fun i o' x' e1 e2 => ?_⟩;cases i with
   | zero=>simp at e1 e2;subst e1 e2;exact h1
   | succ i=>exact k2 i o' x' (by simpa using e1) (by simpa using e2)
  ·cases h
theorem Sim.drawn (h:Sim G σ acts w) (k:Nat):Sim G σ acts { w with drawn:=k }:=by
 obtain ⟨X,F,h⟩:=h;refine ⟨X,F,h.step h.hH (Ctx.Le.refl X) rfl rfl rfl (fun g hg=>.inl hg) h.lt (fun _ _ _=>rfl) ?_ (fun i B hi=>(h.blk i B hi).frame (fun _ _=>rfl) (fun _ _ _=>rfl) (fun _ _ k=>k) (Ctx.Le.refl X) rfl rfl) h.nd h.dj h.win⟩;exact ⟨h.kept.os,h.kept.tape,h.kept.output,h.kept.size,h.kept.old,h.kept.win⟩
theorem runP_cons (t:Tr) (ts:List Tr) (σ:St):runP (fun _=>true) (t::ts) σ=runP (fun _=>true) ts (t.run σ):=by simp [runP]
theorem T.dregion (hm:P.follows .mixedOrders=true) {id n d:Nat} {ops:Array Oper} {xs:List AOp} {ord:List (List Nat)} (hc:cops P ops n ops.toList=some xs) (hord:(ops.toList.map fun o=>(o.after.toList.filter (Region.binds .any)).map (·.on))=ord) (hn:σ.env.n=n) (hoo:okOrd ord=true)
  (h:dregK P xs σ fun ts=>okPairs d ord ts=true∧Q .normal (runP (fun _=>true) ts σ)):T P G acts (.region id ops true) σ Q:=fun a w s=>by
 obtain ⟨ts,⟨h1,h2⟩,h3,h4⟩:=dreg_text h;obtain ⟨k1,k2⟩:=cops_get hc;refine wp_region_any hm ?_;refine any_sound (n:=n) (d:=d) (xs:=xs) (ts:=ts) (ord:=ord) (σ0:=σ) hc hord.symm (by rw [h3,k1];simp) (by rw [k1];simp) (fun i o x ho hx=>k2 i o x (by simpa using ho) hx) hoo h1 h4 (fun a w hs=>⟨_,h2,hs⟩) ops.size _ a _ σ (by simp) ?_ (fun i hi => ?_) (s.drawn _) hn hn.symm rfl fun l => ?_
 ·exact Nat.le_trans (List.length_filter_le _ _) (by simp)
 ·exfalso;simp only [Array.getD_eq_getD_getElem?,Array.getElem?_replicate] at hi;split at hi<;>simp at hi
 ·rw [runP_agree ts _ (fun _=>false) σ σ l (fun i t _ _ => ?_) rfl,runP_none];simp only [Array.getD_eq_getD_getElem?,Array.getElem?_replicate];split<;>simp
theorem TA.dreg {n:Nat} {xs:List AOp} {ord:List (List Nat)} (d:Nat) (hm:P.follows .mixedOrders=true) (hn:σ.env.n=n) (hoo:okOrd ord=true) (h:dregK P xs σ fun ts=>okPairs d ord ts=true∧Q .normal (runP (fun _=>true) ts σ)):TA P G acts n (.dreg ord xs) σ Q:=fun c hc=>by
 unfold cCode at hc;split at hc<;>first
  | (
    split at hc
    ·rename_i hx;injection hc with e1 e2;subst e2;exact T.dregion hm hx e1 hn hoo h
    ·cases hc)
  | cases hc|(split at hc<;>cases hc)
end
def okSuf (d:Nat) (ord:List (List Nat)) (m:Nat):Bool:=(List.range ord.length).all fun i=>Nat.blt i m||(List.range i).all fun j=>reach ord d i j
section
variable {P:Program} {G:Fr} {σ σ':St} {acts:List Act} {w:World}
theorem okSuf_spec {d:Nat} {ord:List (List Nat)} {m:Nat} (h:okSuf d ord m=true) {i j:Nat} (hi:i<ord.length) (hm:m≤i) (hj:j<i):reach ord d i j=true:=by
 simp only [okSuf,List.all_eq_true,List.mem_range,Bool.or_eq_true] at h;rcases h i hi with h|h
 ·have:i<m:=by simpa using h
  omega
 ·exact h j hj
theorem any_tail {ops:Array Oper} {n d m:Nat} {xs:List AOp} {ord:List (List Nat)} {K:St→Prop} {Q:Exit→Act→World→Prop} (hord:ord=ops.toList.map fun o=>(o.after.toList.filter (Region.binds .any)).map (·.on))
  (hxl:xs.length=ops.size) (hx:∀ (i:Nat) (o:Oper) (x:AOp),ops[i]? = some o→xs[i]? = some x→cop P ops n o=some x)
  (hoo:okOrd ord=true) (hsuf:okSuf d ord m=true) (hq:∀ σ' a w,K σ'→Sim G σ' (a::acts) w→Q .normal a w) :
  ∀ (fuel q:Nat) (listed:Array Bool) (a:Act) (w:World) (σ:St),listed.size=ops.size→(∀ i,listed.getD i false=decide (i<q))→m≤q→q≤ops.size→ops.size-q≤fuel→Sim G σ (a::acts) w→σ.env.n=n→regK P (xs.drop q) σ K→wpAny P .any ops Q fuel listed a w:=by
 have hordg:∀ (i:Nat) (o:Oper),ops[i]? = some o→(ord[i]?).getD []=(o.after.toList.filter (Region.binds .any)).map (·.on):=by
  intro i o ho;rw [hord,List.getElem?_map];simp [ho]
 have hol:ord.length=ops.size:=by rw [hord];simp
 have hlt:∀ (i e:Nat),i<ops.size→e∈(ord[i]?).getD []→e<i:=by
  intro i e hi he;simp only [okOrd,List.all_eq_true,List.mem_range] at hoo;have:=hoo i (by omega) e he;simpa using this
 have hready:∀ (q:Nat) (listed:Array Bool),listed.size=ops.size→(∀ i,listed.getD i false=decide (i<q))→m≤q→∀ i,i∈Region.ready .any ops listed↔i=q∧q<ops.size:=by
  intro q listed hsz hli hmq i;rw [mem_ready];constructor
  ·rintro ⟨h1,o,ho,h2⟩;have hil:i<ops.size:=(Array.getElem?_eq_some_iff.1 ho).1;have hil':i<listed.size:=by omega
   have hif:listed.getD i false=false:=by
    simp only [Array.getD_eq_getD_getElem?,Array.getElem?_eq_getElem hil',Option.getD_some] at h1 ⊢;exact h1
   have hge:q≤i:=by
    rw [hli] at hif;have:¬ i<q:=by simpa using hif
    omega
   refine ⟨?_,by omega⟩;apply Classical.byContradiction;intro hne;have hre:=okSuf_spec hsuf (i:=i) (j:=q) (by omega) (by omega) (by omega);have hdeps:∀ e∈(ord[i]?).getD [],listed.getD e false=true:=by
    intro e he;rw [hordg i o ho] at he;obtain ⟨ed,hed,rfl⟩:=List.mem_map.1 he;obtain ⟨h3,h4⟩:=List.mem_filter.1 hed;exact h2 ed (by simpa using h3) h4
   have hcl:∀ i,listed.getD i false=true→∀ e∈(ord[i]?).getD [],listed.getD e false=true:=by
    intro i hi e he;rw [hli] at hi ⊢;have hi:i<q:=by simpa using hi
    have:e<i:=by
     by_cases hio:i<ops.size
     ·exact hlt i e hio he
     ·rw [List.getElem?_eq_none (by omega)] at he;simp at he
    simp;omega
   have:listed.getD q false=true:=by
    cases d with
    | zero=>simp [reach] at hre
    | succ d =>
     simp only [reach,List.any_eq_true,Bool.or_eq_true,beq_iff_eq] at hre;obtain ⟨e,he,hre⟩:=hre;rcases hre with rfl|hre
     ·exact hdeps e he
     ·exact reach_closed (S:=fun i=>listed.getD i false) hcl d e q (hdeps e he) hre
   rw [hli] at this;simp at this
  ·rintro ⟨rfl,hi⟩;have hil':i<listed.size:=by omega
   have ho:=Array.getElem?_eq_getElem hi;refine ⟨?_,_,ho,fun e he hb => ?_⟩
   ·have h3:=hli i;simp only [Array.getD_eq_getD_getElem?,Array.getElem?_eq_getElem hil',Option.getD_some] at h3 ⊢;rw [h3];simp
   ·have hm':e.on∈(ord[i]?).getD []:=by
     rw [hordg i _ ho];exact List.mem_map.2 ⟨e,List.mem_filter.2 ⟨by simpa using he,hb⟩,rfl⟩
    rw [hli];simpa using hlt i e.on hi hm'
 have fin:∀ (q:Nat) (listed:Array Bool) (a:Act) (w:World) (σ:St),listed.size=ops.size→(∀ i,listed.getD i false=decide (i<q))→m≤q→q≤ops.size→Region.ready .any ops listed=[]→Sim G σ (a::acts) w→regK P (xs.drop q) σ K→Q .normal a w:=by
  intro q listed a w σ hsz hli hmq hqs hr hs hk;have:¬ q<ops.size:=fun h=>by
   have:=(hready q listed hsz hli hmq q).2 ⟨rfl,h⟩;rw [hr] at this;cases this
  rw [List.drop_eq_nil_of_le (by omega)] at hk;exact hq σ a w hk hs
 intro fuel;induction fuel with
 | zero =>
  intro q listed a w σ hsz hli hmq hqs hf hs hn hk;have hr:Region.ready .any ops listed=[]:=by
   refine List.eq_nil_iff_forall_not_mem.2 fun j hj => ?_
   have:=((hready q listed hsz hli hmq j).1 hj).2;omega
  exact ⟨hr,fin q listed a w σ hsz hli hmq hqs hr hs hk⟩
 | succ fuel ih =>
  intro q listed a w σ hsz hli hmq hqs hf hs hn hk;refine ⟨fun hr=>fin q listed a w σ hsz hli hmq hqs hr hs hk,fun i hi => ?_⟩;obtain ⟨rfl,hil⟩:=(hready q listed hsz hli hmq i).1 hi;have ho:=Array.getElem?_eq_getElem hil;have hxi:=List.getElem?_eq_getElem (show i<xs.length by omega);rw [List.drop_eq_getElem_cons (show i<xs.length by omega)] at hk;obtain ⟨X,F,hs'⟩:=hs;unfold wpOp;rw [ho];refine step_sound hs' ho hn (hx i _ _ ho hxi) hk fun σ' a' w' hn' hk' hs'' => ?_
  have hil':i<listed.size:=by omega
  refine ih (i+1) (listed.setIfInBounds i true) a' w' σ' (by simpa using hsz) (fun j => ?_) (by omega) (by omega) (by omega) hs'' hn' hk';simp only [Array.getD_eq_getD_getElem?];by_cases e:j=i
  ·subst e;rw [Array.getElem?_setIfInBounds_self_of_lt hil'];simp
  ·rw [Array.getElem?_setIfInBounds_ne (fun k=>e k.symm)];have:=hli j;simp only [Array.getD_eq_getD_getElem?] at this;rw [this];by_cases h:j<i
   ·simp [h];omega
   ·simp [h];omega
theorem any_soundS {m:Nat} {K:St→Prop} {ops:Array Oper} {n d:Nat} {xs:List AOp} {ts:List Tr} {ord:List (List Nat)} {σ0:St} {Q:Exit→Act→World→Prop} (hxs:cops P ops n ops.toList=some xs) (hord:ord=ops.toList.map fun o=>(o.after.toList.filter (Region.binds .any)).map (·.on))
  (hlen:ts.length=m) (hmo:m≤ops.size) (hsuf:okSuf d ord m=true) (hxl:xs.length=ops.size) (hx:∀ (i:Nat) (o:Oper) (x:AOp),ops[i]? = some o→xs[i]? = some x→cop P ops n o=some x)
  (hoo:okOrd ord=true) (hop:okPairs d ord ts=true)
  (htx:∀ (i:Nat) (x:AOp) (t:Tr),xs[i]? = some x→ts[i]? = some t→(∀ k∈t.wh.map (·.1),k∈t.sl)∧∃ b,∀ σ':St,(∀ r∈t.rs,σ'.reg r=(runP (fun j=>decide (j<i)) ts σ0).reg r)→(∀ k∈t.sl,σ'.slot k=(runP (fun j=>decide (j<i)) ts σ0).slot k)→Does P b x t σ')
  (hk0:regK P (xs.drop m) (runP (fun _=>true) ts σ0) K) (hq:∀ σ' a w,K σ'→Sim G σ' (a::acts) w→Q .normal a w) :
  ∀ (fuel:Nat) (listed:Array Bool) (a:Act) (w:World) (σ:St),listed.size=ops.size→((List.range ops.size).filter fun i => !listed.getD i false).length≤fuel →
   (∀ i,listed.getD i false=true→∀ e∈(ord[i]?).getD [],listed.getD e false=true)→(∀ i,m≤i→listed.getD i false=false)→Sim G σ (a::acts) w→σ.env.n=n→n=σ0.env.n→σ.sus=σ0.sus →
   (∀ l,val σ l=val (runP (fun i=>listed.getD i false) ts σ0) l)→wpAny P .any ops Q fuel listed a w:=by
 have hordg:∀ (i:Nat) (o:Oper),ops[i]? = some o→(ord[i]?).getD []=(o.after.toList.filter (Region.binds .any)).map (·.on):=by
  intro i o ho;rw [hord,List.getElem?_map];simp [ho]
 have hol:ord.length=ops.size:=by rw [hord];simp
 have runP_n:∀ (ts:List Tr) (p:Nat→Bool) (σ:St),(runP p ts σ).env.n=σ.env.n∧(runP p ts σ).sus=σ.sus:=by
  intro ts;induction ts with
  | nil=>intro p σ;exact ⟨rfl,rfl⟩
  | cons t ts ih =>
   intro p σ;simp only [runP];obtain ⟨h1,h2⟩:=ih (fun i=>p (i+1)) (if p 0=true then t.run σ else σ);rw [h1,h2];cases p 0
   ·exact ⟨rfl,rfl⟩
   ·simp only [if_true,Tr.run];refine ⟨by rw [putO_n,setSlots_n],?_⟩;have:=(setSlots_env t.wh σ).2;cases t.d<;>exact this
 have done:∀ (listed:Array Bool),listed.size=ops.size→(∀ j,j∈Region.ready .any ops listed→m≤j)→∀ j,j<m→listed.getD j false=true:=by
  intro listed hsz hr j;induction j using Nat.strongRecOn with
  | _ j ih =>
   intro hj;apply Classical.byContradiction;intro hne;have ho:=Array.getElem?_eq_getElem (show j<ops.size by omega);have:j∈Region.ready .any ops listed:=by
    rw [mem_ready];refine ⟨?_,_,ho,fun e he hb => ?_⟩
    ·have hjl:j<listed.size:=by omega
     simp only [Array.getD_eq_getD_getElem?,Array.getElem?_eq_getElem hjl,Option.getD_some] at hne ⊢;simpa using hne
    ·have hm:e.on∈(ord[j]?).getD []:=by
      rw [hordg j _ ho];exact List.mem_map.2 ⟨e,List.mem_filter.2 ⟨by simpa using he,hb⟩,rfl⟩
     have hlt:e.on<j:=by
      simp only [okOrd,List.all_eq_true,List.mem_range] at hoo;have:=hoo j (by omega) e.on hm;simpa using this
     exact ih e.on hlt (by omega)
   have:=hr j this;omega
 have fin:∀ (fuel:Nat) (listed:Array Bool) (a:Act) (w:World) (σ:St),listed.size=ops.size→((List.range ops.size).filter fun i => !listed.getD i false).length≤fuel→(∀ j,j<m→listed.getD j false=true)→(∀ i,m≤i→listed.getD i false=false)→Sim G σ (a::acts) w→σ.env.n=n→n=σ0.env.n→σ.sus=σ0.sus→(∀ l,val σ l=val (runP (fun i=>listed.getD i false) ts σ0) l)→wpAny P .any ops Q fuel listed a w:=by
  intro fuel listed a w σ hsz hcnt hall hnone hs hn hn0 hsus hv;have hs2:Sim G (runP (fun _=>true) ts σ0) (a::acts) w:=by
   refine hs.ext (fun l => ?_) ?_ ?_
   ·rw [hv l];refine runP_agree ts _ _ σ0 σ0 l (fun i t ht _ => ?_) rfl;exact hall i (by have:=(List.getElem?_eq_some_iff.1 ht).1;omega)
   ·rw [(runP_n ts _ σ0).1,hn,hn0]
   ·rw [(runP_n ts _ σ0).2,hsus]
  refine any_tail (d:=d) (m:=m) (xs:=xs) (ord:=ord) (K:=K) hord hxl hx hoo hsuf hq fuel m listed a w _ hsz (fun i => ?_) (Nat.le_refl _) hmo ?_ hs2 (by rw [(runP_n ts _ σ0).1];exact hn0.symm) hk0
  ·by_cases h:i<m
   ·rw [hall i h];simp [h]
   ·rw [hnone i (by omega)];simp [h]
  ·refine Nat.le_trans ?_ hcnt;have e1:((List.range ops.size).filter fun i => !listed.getD i false)=(List.range ops.size).filter fun i=>decide (m≤i):=by
    congr 1
    funext i
    by_cases h:i<m
    ·rw [hall i h];simp;omega
    ·rw [hnone i (by omega)];simp;omega
   rw [e1];have e2:∀ (k:Nat),k-m≤((List.range k).filter fun i=>decide (m≤i)).length:=by
    intro k;induction k with
    | zero=>simp
    | succ k ih =>
     rw [List.range_succ,List.filter_append,List.length_append];by_cases h:m≤k
     ·simp [h];omega
     ·simp [h];omega
   exact e2 _
 intro fuel;induction fuel with
 | zero =>
  intro listed a w σ hsz hcnt hcl hnone hs hn hn0 hsus hv;have hall:∀ j,j<m→listed.getD j false=true:=by
   refine done listed hsz fun j hj => ?_
   exfalso;rw [mem_ready] at hj;obtain ⟨h1,o,ho,_⟩:=hj;have hjl:j<ops.size:=(Array.getElem?_eq_some_iff.1 ho).1;have:j∈(List.range ops.size).filter fun i => !listed.getD i false:=by
    rw [List.mem_filter];refine ⟨List.mem_range.2 hjl,?_⟩;have hjl':j<listed.size:=by omega
    simp only [Array.getD_eq_getD_getElem?,Array.getElem?_eq_getElem hjl',Option.getD_some] at h1 ⊢;simp [h1]
   have:=List.length_pos_of_mem this;omega
  exact fin 0 listed a w σ hsz hcnt hall hnone hs hn hn0 hsus hv
 | succ fuel ih =>
  intro listed a w σ hsz hcnt hcl hnone hs hn hn0 hsus hv;by_cases hall:∀ j,j<m→listed.getD j false=true
  ·exact fin _ listed a w σ hsz hcnt hall hnone hs hn hn0 hsus hv
  refine ⟨fun hr=>(hall (done listed hsz fun j hj=>by rw [hr] at hj;cases hj)).elim,fun i hi => ?_⟩;rw [mem_ready] at hi;obtain ⟨hi1,o,ho,hi2⟩:=hi;have hil:i<ops.size:=(Array.getElem?_eq_some_iff.1 ho).1;have hil':i<listed.size:=by omega
  have hif:listed.getD i false=false:=by
   simp only [Array.getD_eq_getD_getElem?,Array.getElem?_eq_getElem hil',Option.getD_some] at hi1 ⊢;exact hi1
  have hdeps:∀ e∈(ord[i]?).getD [],listed.getD e false=true:=by
   intro e he;rw [hordg i o ho] at he;obtain ⟨ed,hed,rfl⟩:=List.mem_map.1 he;obtain ⟨h1,h2⟩:=List.mem_filter.1 hed;exact hi2 ed (by simpa using h1) h2
  have him:i<m:=by
   apply Classical.byContradiction;intro hge;refine hall fun j hj => ?_
   have hre:=okSuf_spec hsuf (i:=i) (j:=j) (by omega) (by omega) (by omega);cases d with
   | zero=>simp [reach] at hre
   | succ d =>
    simp only [reach,List.any_eq_true,Bool.or_eq_true,beq_iff_eq] at hre;obtain ⟨e,he,hre⟩:=hre;rcases hre with rfl|hre
    ·exact hdeps _ he
    ·exact reach_closed (S:=fun i=>listed.getD i false) hcl d e j (hdeps e he) hre
  have hxi:=List.getElem?_eq_getElem (show i<xs.length by omega);have hti:=List.getElem?_eq_getElem (show i<ts.length by omega);obtain ⟨hsub,b,hdoes⟩:=htx i _ _ hxi hti;have hreads:∀ l:Nat⊕Nat,(∀ (j:Nat) (u:Tr),ts[j]? = some u→u.wr l=true→(j<i→conflict u (ts[i]'(by omega))=true)∧(i<j→conflict (ts[i]'(by omega)) u=true))→val σ l=val (runP (fun j=>decide (j<i)) ts σ0) l:=by
   intro l hc;rw [hv l];refine runP_agree ts _ _ σ0 σ0 l (fun j u hu hw => ?_) rfl;obtain ⟨c1,c2⟩:=hc j u hu hw;rcases Nat.lt_trichotomy j i with hlt|rfl|hgt
   ·have hre:=okPairs_spec hop hlt hu hti (c1 hlt);have:listed.getD j false=true:=by
     cases d with
     | zero=>simp [reach] at hre
     | succ d =>
      simp only [reach,List.any_eq_true,Bool.or_eq_true,beq_iff_eq] at hre;obtain ⟨e,he,hre⟩:=hre;rcases hre with rfl|hre
      ·exact hdeps e he
      ·exact reach_closed (S:=fun i=>listed.getD i false) hcl d e j (hdeps e he) hre
    simp [this,hlt]
   ·simp [hif]
   ·have hre:=okPairs_spec hop hgt hti hu (c2 hgt);have:listed.getD j false=false:=by
     cases e:listed.getD j false
     ·rfl
     ·have:=reach_closed (S:=fun i=>listed.getD i false) hcl d j i e hre;rw [hif] at this;cases this
    have hnlt:¬ j<i:=by omega
    simp [this,hnlt]
  have hd:=hdoes σ (fun r hr=>by
   have:=hreads (.inl r) (fun j u hu hw=>by
    simp only [Tr.wr,beq_iff_eq] at hw;refine ⟨fun _ => ?_,fun _ => ?_⟩
    ·simp only [conflict,Bool.or_eq_true];exact .inl (.inl (.inl (meets_of (x:=r) (by simp [hw]) (by simp [hr]))))
    ·simp only [conflict,Bool.or_eq_true];exact .inl (.inl (.inr (meets_of (x:=r) (by simp [hw]) hr))))
   simpa [val] using this) (fun k hk=>by
   have:=hreads (.inr k) (fun j u hu hw=>by
    have hw':k∈u.wh.map (·.1):=by simpa [Tr.wr] using hw
    refine ⟨fun _ => ?_,fun _ => ?_⟩
    ·simp only [conflict,Bool.or_eq_true];exact .inl (.inr (meets_of hw' hk))
    ·simp only [conflict,Bool.or_eq_true];exact .inr (meets_of hw' hk))
   simpa [val] using this)
  obtain ⟨X,F,hs'⟩:=hs;unfold wpOp;rw [ho];refine does_sound hs' ho hn (hx i o _ ho hxi) hd fun a' w' hsim => ?_
  have hq2:∀ j,(listed.setIfInBounds i true).getD j false=(j==i||listed.getD j false):=by
   intro j;simp only [Array.getD_eq_getD_getElem?];by_cases e:j=i
   ·subst e;rw [Array.getElem?_setIfInBounds_self_of_lt hil'];simp
   ·rw [Array.getElem?_setIfInBounds_ne (fun k=>e k.symm)];simp [e]
  have hnone2:∀ j,m≤j→(listed.setIfInBounds i true).getD j false=false:=by
   intro j hj;rw [hq2];have e:(j==i)=false:=by simp;omega
   rw [e,Bool.false_or];exact hnone j hj
  refine ih (listed.setIfInBounds i true) a' w' _ (by simpa using hsz) ?_ ?_ hnone2 hsim ?_ hn0 ?_ fun l => ?_
  ·have hlt:((List.range ops.size).filter fun j => !(listed.setIfInBounds i true).getD j false).length<((List.range ops.size).filter fun j => !listed.getD j false).length:=by
    have heq:((List.range ops.size).filter fun j => !(listed.setIfInBounds i true).getD j false)=((List.range ops.size).filter fun j => !listed.getD j false).filter fun j => !(j==i):=by
     rw [List.filter_filter];congr 1
     funext j
     rw [hq2];cases (j==i)<;>simp
    rw [heq];exact List.length_filter_lt_length_iff_exists.2 ⟨i,List.mem_filter.2 ⟨List.mem_range.2 hil,by simp [hif]⟩,by simp⟩
   omega
  ·intro j hj e he;rw [hq2] at hj ⊢;by_cases ej:j=i
   ·subst ej;rw [hdeps e he];simp
   ·have:(j==i)=false:=by simpa using ej
    rw [this,Bool.false_or] at hj;rw [hcl j hj e he];simp
  ·show ((setSlots σ _).putO _ _).env.n=n;rw [putO_n,setSlots_n,hn]
  ·show ((setSlots σ (ts[i]'(by omega)).wh).putO (ts[i]'(by omega)).d (ts[i]'(by omega)).v).sus=_;have:=(setSlots_env (ts[i]'(by omega)).wh σ).2;have h2:∀ (d:Option Nat) (v:RV) (σ:St),(σ.putO d v).sus=σ.sus:=by intro d v σ;cases d<;>rfl
   rw [h2,this,hsus]
  ·have h1:val ((ts[i]'(by omega)).run σ) l=val ((ts[i]'(by omega)).run (runP (fun i=>listed.getD i false) ts σ0)) l:=by rw [val_run,val_run,hv l]
   rw [h1];refine (runP_insert ts _ _ σ0 l i _ hti hq2 fun j u hj hu hpj huw => ?_).symm;cases hw:(ts[i]'(by omega)).wr l
   ·rfl
   ·exfalso;have hcf:conflict (ts[i]'(by omega)) u=true:=by
     simp only [conflict,Bool.or_eq_true];cases l with
     | inl r =>
      simp only [Tr.wr,beq_iff_eq] at hw huw;exact .inl (.inl (.inl (meets_of (x:=r) (by simp [hw]) (by simp [huw]))))
     | inr k =>
      have hw':k∈(ts[i]'(by omega)).wh.map (·.1):=by simpa [Tr.wr] using hw
      have huw':k∈u.wh.map (·.1):=by simpa [Tr.wr] using huw
      exact .inr (meets_of huw' (hsub k hw'))
    have hre:=okPairs_spec hop hj hti hu hcf;have:=reach_closed (S:=fun i=>listed.getD i false) hcl d j i hpj hre;rw [hif] at this;cases this
end
section
variable {P:Program} {G:Fr} {σ σ':St} {acts:List Act} {w:World} {Q:Exit→St→Prop}
theorem T.dregionS (hm:P.follows .mixedOrders=true) {id n d m:Nat} {ops:Array Oper} {xs:List AOp} {ord:List (List Nat)} (hc:cops P ops n ops.toList=some xs) (hord:(ops.toList.map fun o=>(o.after.toList.filter (Region.binds .any)).map (·.on))=ord) (hn:σ.env.n=n) (hoo:okOrd ord=true) (hsuf:okSuf d ord m=true) (hml:m≤xs.length)
  (h:dregK P (xs.take m) σ fun ts=>okPairs d ord ts=true∧regK P (xs.drop m) (runP (fun _=>true) ts σ) fun σ'=>Q .normal σ'):T P G acts (.region id ops true) σ Q:=fun a w s=>by
 obtain ⟨ts,⟨h1,h2⟩,h3,h4⟩:=dreg_text h;obtain ⟨k1,k2⟩:=cops_get hc;have hts:ts.length=m:=by rw [h3,List.length_take];omega
 refine wp_region_any hm ?_;refine any_soundS (n:=n) (d:=d) (m:=m) (K:=fun σ'=>Q .normal σ') (xs:=xs) (ts:=ts) (ord:=ord) (σ0:=σ) hc hord.symm hts (by rw [k1] at hml;simpa using hml) hsuf (by rw [k1];simp) (fun i o x ho hx=>k2 i o x (by simpa using ho) hx) hoo h1 (fun i x t hx ht => ?_) h2 (fun σ' a w hk hs=>⟨_,hk,hs⟩) ops.size _ a _ σ (by simp) ?_ (fun i hi => ?_) (fun i hi => ?_) (s.drawn _) hn hn.symm rfl fun l => ?_
 ·refine h4 i x t ?_ ht;have:=(List.getElem?_eq_some_iff.1 ht).1;rw [List.getElem?_take,if_pos (by omega)];exact hx
 ·exact Nat.le_trans (List.length_filter_le _ _) (by simp)
 ·exfalso;simp only [Array.getD_eq_getD_getElem?,Array.getElem?_replicate] at hi;split at hi<;>simp at hi
 ·simp only [Array.getD_eq_getD_getElem?,Array.getElem?_replicate];split<;>simp
 ·rw [runP_agree ts _ (fun _=>false) σ σ l (fun i t _ _ => ?_) rfl,runP_none];simp only [Array.getD_eq_getD_getElem?,Array.getElem?_replicate];split<;>simp
theorem TA.dregS {n:Nat} {xs:List AOp} {ord:List (List Nat)} (d m:Nat) (hm:P.follows .mixedOrders=true) (hn:σ.env.n=n) (hoo:okOrd ord=true) (hsuf:okSuf d ord m=true) (hml:m≤xs.length)
  (h:dregK P (xs.take m) σ fun ts=>okPairs d ord ts=true∧regK P (xs.drop m) (runP (fun _=>true) ts σ) fun σ'=>Q .normal σ'):TA P G acts n (.dreg ord xs) σ Q:=fun c hc=>by
 unfold cCode at hc;split at hc<;>first
  | (
    split at hc
    ·rename_i hx;injection hc with e1 e2;subst e2;exact T.dregionS hm hx e1 hn hoo hsuf hml h
    ·cases hc)
  | cases hc|(split at hc<;>cases hc)
end
inductive Ty where
 | int (k:IntKind)
 | bool
 | str
 | sl (t:Ty)
 | vw (t:Ty)
 | pr (a b:Ty)
@[reducible] def Den:Ty→Type
 | .int _=>Int
 | .bool=>Bool
 | .str=>ByteArray
 | .sl t=>List (Den t)
 | .vw t=>List (Den t)
 | .pr a b=>Den a×Den b
def Ty.sz:Ty→Nat
 | .pr a b=>a.sz+b.sz
 | _=>1
def Ty.own:Ty→Bool
 | .vw _=>false
 | .sl t=>t.own
 | .pr a b=>a.own&&b.own
 | _=>true
def Ty.flat:Ty→Bool
 | .sl _=>false
 | .pr a b=>a.flat&&b.flat
 | _=>true
def Ty.agg:Ty→Bool
 | .pr _ _=>true
 | _=>false
def enc:(t:Ty)→Den t→List PV
 | .int k,n=>[.i k n]
 | .bool,x=>[.b x]
 | .str,x=>[.s x]
 | .sl t,l=>[.vs true t.sz (l.map (enc t))]
 | .vw t,l=>[.vs false t.sz (l.map (enc t))]
 | .pr a b,v=>enc a v.1++enc b v.2
def kindB (k l:IntKind):Bool:=decide (k=l)
theorem kindB_ok {k l:IntKind} (h:kindB k l=true):k=l:=of_decide_eq_true h
def Ty.eq:(a b:Ty)→Option (PLift (a=b))
 | .int k,.int l=>match h:kindB k l with
  | true=>some ⟨by rw [kindB_ok h]⟩
  | false=>none
 | .bool,.bool=>some ⟨rfl⟩
 | .str,.str=>some ⟨rfl⟩
 | .sl t,.sl u=>match Ty.eq t u with
  | some ⟨h⟩=>some ⟨by rw [h]⟩
  | none=>none
 | .vw t,.vw u=>match Ty.eq t u with
  | some ⟨h⟩=>some ⟨by rw [h]⟩
  | none=>none
 | .pr a b,.pr c d=>match Ty.eq a c,Ty.eq b d with
  | some ⟨h⟩,some ⟨k⟩=>some ⟨by rw [h,k]⟩
  | _,_=>none
 | _,_=>none
def asL (t u:Ty) (l:List (Den t)):Option (List (Den u)) :=
 match Ty.eq t u with
 | some ⟨h⟩=>some (h▸l)
 | none=>none
theorem asL_ok {t u:Ty} {l:List (Den t)} {m:List (Den u)} (h:asL t u l=some m):t.sz=u.sz∧l.map (enc t)=m.map (enc u):=by
 unfold asL at h;split at h
 ·rename_i e he;subst e;injection h with h;subst h;exact ⟨rfl,rfl⟩
 ·cases h
theorem enc_len:∀ (t:Ty) (v:Den t),(enc t v).length=t.sz
 | .int _,_=>rfl
 | .bool,_=>rfl
 | .str,_=>rfl
 | .sl _,_=>rfl
 | .vw _,_=>rfl
 | .pr a b,v=>by simp only [enc,List.length_append,enc_len a v.1,enc_len b v.2];rfl
theorem enc_nr:∀ (t:Ty) (v:Den t),∀ p∈enc t v,NoRef p
 | .int _,_,p,h=>by simp only [enc,List.mem_singleton] at h;subst h;exact .i
 | .bool,_,p,h=>by simp only [enc,List.mem_singleton] at h;subst h;exact .b
 | .str,_,p,h=>by simp only [enc,List.mem_singleton] at h;subst h;exact .s
 | .sl t,l,p,h=>by
  simp only [enc,List.mem_singleton] at h;subst h;refine .vs fun c hc => ?_
  obtain ⟨v,_,rfl⟩:=List.mem_map.1 hc;exact enc_nr t v
 | .vw t,l,p,h=>by
  simp only [enc,List.mem_singleton] at h;subst h;refine .vs fun c hc => ?_
  obtain ⟨v,_,rfl⟩:=List.mem_map.1 hc;exact enc_nr t v
 | .pr a b,v,p,h=>by
  simp only [enc,lma] at h;exact h.elim (enc_nr a v.1 p) (enc_nr b v.2 p)
theorem enc_no:∀ (t:Ty),t.own=true→∀ (v:Den t),∀ p∈enc t v,NoRo p
 | .int _,_,_,p,h=>by simp only [enc,List.mem_singleton] at h;subst h;exact .i
 | .bool,_,_,p,h=>by simp only [enc,List.mem_singleton] at h;subst h;exact .b
 | .str,_,_,p,h=>by simp only [enc,List.mem_singleton] at h;subst h;exact .s
 | .sl t,ho,l,p,h=>by
  simp only [enc,List.mem_singleton] at h;subst h;refine .vs fun c hc => ?_
  obtain ⟨v,_,rfl⟩:=List.mem_map.1 hc;exact enc_no t ho v
 | .vw t,ho,_,_,_=>by cases ho
 | .pr a b,ho,v,p,h=>by
  simp only [Ty.own,bae] at ho;simp only [enc,lma] at h;exact h.elim (enc_no a ho.1 v.1 p) (enc_no b ho.2 v.2 p)
theorem enc_sh:∀ (t:Ty),t.flat=true→∀ (v:Den t),(enc t v).map PV.sh=enc t v
 | .int _,_,_=>rfl
 | .bool,_,_=>rfl
 | .str,_,_=>rfl
 | .vw _,_,_=>rfl
 | .pr a b,h,v=>by
  simp only [Ty.flat,bae] at h;simp [enc,enc_sh a h.1 v.1,enc_sh b h.2 v.2]
theorem enc_fr:∀ (t:Ty),t.flat=true→∀ (v:Den t),∀ p∈enc t v,p.free=true
 | .int _,_,_,p,h=>by simp only [enc,List.mem_singleton] at h;subst h;rfl
 | .bool,_,_,p,h=>by simp only [enc,List.mem_singleton] at h;subst h;rfl
 | .str,_,_,p,h=>by simp only [enc,List.mem_singleton] at h;subst h;rfl
 | .vw _,_,_,p,h=>by simp only [enc,List.mem_singleton] at h;subst h;rfl
 | .pr a b,hf,v,p,h=>by
  simp only [Ty.flat,bae] at hf;simp only [enc,lma] at h;exact h.elim (enc_fr a hf.1 v.1 p) (enc_fr b hf.2 v.2 p)
def mkR1 (t:Ty) (l:List PV):R1:=match t with
 | .pr _ _=>.agg l
 | _=>.one (l.headD .un)
theorem mkR1_cs (t:Ty) (l:List PV) (h:l.length=t.sz):(mkR1 t l).cs=l:=by
 cases t with
 | pr a b=>rfl
 | _=>match l,h with
  | [x],_=>rfl
def PV.frz:PV→Bool
 | .i _ _=>true
 | .b _=>true
 | .s _=>true
 | .np=>true
 | .vs o _ _ => !o
 | .rp _ _=>true
 | .fn _ _=>true
 | _=>false
inductive SC where
 | i (k:IntKind) (n:Int)
 | b (x:Bool)
 | s (x:ByteArray)
 | sl (o:Bool) (t:Ty) (l:List (Den t))
 | nl (o:Bool) (k:Nat)
 | np
inductive CapT where
 | sc (l:List SC) (j:Option Nat)
 | vp (id j:Nat)
inductive TC where
 | c (x:SC)
 | ref (id v n:Nat)
 | part (id v lo len n:Nat)
 | vp (id j:Nat)
 | hp (id v n e j:Nat)
 | rp (l:List SC) (j:Nat)
 | fn (f:FuncId) (l:List (List SC×Option Nat))
 | fv (f:FuncId) (m:List PV) (a r:Ty) (p:Den a→Option (Den r))
 | fq (f:FuncId) (l:List CapT)
 | rq (l:List SC)
 | un
def SC.pv:SC→PV
 | .i k n=>.i k n
 | .b x=>.b x
 | .s x=>.s x
 | .sl o t l=>.vs o t.sz (l.map (enc t))
 | .nl o k=>.vs o k []
 | .np=>.np
def SC.sh:SC→SC
 | .sl _ t l=>.sl false t l
 | .nl _ k=>.nl false k
 | x=>x
theorem SC.sh_pv (x:SC):x.sh.pv=x.pv.sh:=by cases x<;>rfl
theorem SC.nr (x:SC):NoRef x.pv:=by
 cases x with
 | i=>exact .i
 | b=>exact .b
 | s=>exact .s
 | sl o t l =>
  refine .vs fun c hc => ?_
  obtain ⟨v,_,rfl⟩:=List.mem_map.1 hc;exact enc_nr t v
 | nl=>exact .vs (by simp)
 | np=>exact .np
def capPV:List SC×Option Nat→PV
 | (l,some j)=>.rp (l.map SC.pv) j
 | (l,none)=>match l with
  | x::_=>x.pv
  | []=>.np
theorem nr_map {l:List SC}:∀ p∈l.map SC.pv,NoRef p:=by
 intro p hp;obtain ⟨x,_,rfl⟩:=List.mem_map.1 hp;exact x.nr
theorem capPV_nr (x:List SC×Option Nat):NoRef (capPV x):=by
 obtain ⟨l,j⟩:=x;cases j with
 | some j=>exact .rp nr_map
 | none=>cases l with
  | nil=>exact .np
  | cons x l=>exact x.nr
def CapT.pv:CapT→PV
 | .sc l j=>capPV (l,j)
 | .vp id j=>.ptr id 1 0 j
def TC.pv:TC→PV
 | .c x=>x.pv
 | .ref id _ n=>.ref id 0 n n
 | .part id _ lo len n=>.ref id lo len n
 | .vp id j=>.ptr id 1 0 j
 | .hp id _ n e j=>.ptr id n e j
 | .rp l j=>.rp (l.map SC.pv) j
 | .fn f l=>.fn f (l.map capPV)
 | .fv f m _ _ _=>.fn f m
 | .fq f l=>.fn f (l.map CapT.pv)
 | .rq l=>.rp [.rp (l.map SC.pv) 0] 0
 | .un=>.un
def cells:(t:Ty)→Den t→List SC
 | .int k,n=>[.i k n]
 | .bool,x=>[.b x]
 | .str,x=>[.s x]
 | .sl t,l=>[.sl true t l]
 | .vw t,l=>[.sl false t l]
 | .pr a b,v=>cells a v.1++cells b v.2
theorem cells_pv:∀ (t:Ty) (v:Den t),(cells t v).map SC.pv=enc t v
 | .int _,_=>rfl
 | .bool,_=>rfl
 | .str,_=>rfl
 | .sl _,_=>rfl
 | .vw _,_=>rfl
 | .pr a b,v=>by simp [cells,enc,cells_pv a v.1,cells_pv b v.2]
theorem cells_len (t:Ty) (v:Den t):(cells t v).length=t.sz:=by rw [← enc_len t v,←cells_pv,List.length_map]
def spl {α:Type}:Nat→List α→List α×List α
 | 0,l=>([],l)
 | n+1,x::l=>(x::(spl n l).1,(spl n l).2)
 | _+1,[]=>([],[])
theorem spl_eq {α:Type}:∀ (n:Nat) (l:List α),spl n l=(l.take n,l.drop n)
 | 0,l=>rfl
 | n+1,[]=>rfl
 | n+1,x::l=>by simp [spl,spl_eq n l]
def ofC1 (o:Bool) (t:Ty):SC→Option (List (Den t))
 | .sl o' u l=>match o==o' with
  | true=>asL u t l
  | false=>none
 | .nl o' k=>match o==o',Nat.beq k t.sz with
  | true,true=>some []
  | _,_=>none
 | _=>none
def ofC (o:Bool):(t:Ty)→List SC→Option (Den t)
 | .int k,l=>match l with
  | [.i k' n]=>match kindB k k' with
   | true=>some n
   | false=>none
  | _=>none
 | .bool,l=>match l with
  | [.b x]=>some x
  | _=>none
 | .str,l=>match l with
  | [.s x]=>some x
  | _=>none
 | .sl t,l=>match l with
  | [x]=>ofC1 o t x
  | _=>none
 | .vw t,l=>match l with
  | [x]=>ofC1 false t x
  | _=>none
 | .pr a b,l=>match ofC o a (spl a.sz l).1 with
  | some x=>match ofC o b (spl a.sz l).2 with
   | some y=>some (x,y)
   | none=>none
  | none=>none
def sho (o:Bool) (p:PV):PV:=match o with
 | true=>p
 | false=>p.sh
theorem ofC1_ok {o:Bool} {t:Ty} {x:SC} {v:List (Den t)} (h:ofC1 o t x=some v):x.pv=.vs o t.sz (v.map (enc t)):=by
 unfold ofC1 at h;split at h
 ·split at h
  ·rename_i ho;obtain ⟨h1,h2⟩:=asL_ok h;rw [beq_iff_eq] at ho;subst ho;simp only [SC.pv,h1,h2]
  ·cases h
 ·split at h
  ·rename_i ho hk;rw [beq_iff_eq] at ho;subst ho;have:=nbe hk;injection h with h;subst h this;rfl
  ·cases h
 ·cases h
theorem ofC_ok {o:Bool}:∀ {t:Ty} {l:List SC} {v:Den t},ofC o t l=some v→l.map SC.pv=(enc t v).map (sho o)
 | .int k,l,v,h=>by
  unfold ofC at h;split at h
  ·split at h
   ·rename_i hk;injection h with h;subst h;rw [← kindB_ok hk];cases o<;>rfl
   ·cases h
  ·cases h
 | .bool,l,v,h=>by
  unfold ofC at h;split at h
  ·injection h with h;subst h;cases o<;>rfl
  ·cases h
 | .str,l,v,h=>by
  unfold ofC at h;split at h
  ·injection h with h;subst h;cases o<;>rfl
  ·cases h
 | .sl t,l,v,h=>by
  unfold ofC at h;split at h
  ·simp only [List.map_cons,List.map_nil,ofC1_ok h,enc];cases o<;>rfl
  ·cases h
 | .vw t,l,v,h=>by
  unfold ofC at h;split at h
  ·simp only [List.map_cons,List.map_nil,ofC1_ok h,enc];cases o<;>rfl
  ·cases h
 | .pr a b,l,v,h=>by
  unfold ofC at h;split at h
  ·rename_i x h1;split at h
   ·rename_i y h2;injection h with h;subst h;rw [spl_eq] at h1 h2;have e1:=ofC_ok h1;have e2:=ofC_ok h2;simp only [enc,List.map_append,←e1,←e2];rw [← List.map_append,List.take_append_drop]
   ·cases h
  ·cases h
theorem sho_t (l:List PV):l.map (sho true)=l:=by
 have:sho true=id:=by funext p;rfl
 rw [this,List.map_id]
inductive TR where
 | one (c:TC)
 | agg (l:List TC)
inductive TV where
 | r (x:TR)
 | tup (l:List TR)
 | un
inductive TB where
 | fresh
 | dead
 | var (w:Bool) (cs:List TC)
 | nb (v k:Nat)
 | sl (t:Ty) (v:Nat) (l:List (Den t))
 | hole (t:Ty) (v hv:Nat) (n:Int) (pre:List (Den t)) (row:List TC) (post:List (Den t)) (memo:Option (List (Den t)))
structure TSt where
 r:List (Nat×TV)
 h:List TB
 g:Nat
def TR.r1:TR→R1
 | .one c=>.one c.pv
 | .agg l=>.agg (l.map TC.pv)
def TR.cs:TR→List TC
 | .one c=>[c]
 | .agg l=>l
def TV.rv:TV→RV
 | .r x=>.r x.r1
 | .tup l=>.tup (l.map TR.r1)
 | .un=>.un
def TV.cs:TV→List TC
 | .r x=>x.cs
 | .tup l=>l.flatMap TR.cs
 | .un=>[]
def TB.slot:TB→Slot
 | .fresh=>.fresh
 | .dead=>.dead
 | .var w cs=>.live ⟨if w then 2 else 1,cs.length,[],[cs.map TC.pv]⟩
 | .nb _ k=>.live ⟨0,k,[],[]⟩
 | .sl t _ l=>.live ⟨0,t.sz,[],l.map (enc t)⟩
 | .hole t _ _ _ pre row post _=>.live ⟨0,t.sz,[],pre.map (enc t)++row.map TC.pv::post.map (enc t)⟩
def img (n:Nat) (τ:TSt):St:=⟨⟨n,τ.r.map fun e=>(e.1,e.2.rv)⟩,[],τ.h.map TB.slot⟩
def lookT:List (Nat×TV)→Nat→TV
 | [],_=>.un
 | (s,v)::r,t=>match Nat.beq t s with
  | true=>v
  | false=>lookT r t
def tbAt:List TB→Nat→TB
 | [],_=>.fresh
 | s::_,0=>s
 | _::r,n+1=>tbAt r n
def setT:List TB→Nat→TB→List TB
 | [],0,x=>[x]
 | [],n+1,x=>.fresh::setT [] n x
 | _::r,0,x=>x::r
 | s::r,n+1,x=>s::setT r n x
def setTs (h:List TB):List (Nat×TB)→List TB
 | []=>h
 | (i,x)::r=>setTs (setT h i x) r
structure TE where
 v:TV
 wh:List (Nat×TB):=[]
 up:List (Nat×TB):=[]
 rd:List Nat:=[]
 g:Nat
def TE.img (E:TE):Eff:={ v:=E.v.rv,wh:=E.wh.map fun e=>(e.1,e.2.slot),rd:=E.rd }
def putT (r:List (Nat×TV)) (d:Option Nat) (v:TV):List (Nat×TV) :=
 match d with
 | some t=>(t,v)::r
 | none=>r
def TSt.app (τ:TSt) (d:Option Nat) (E:TE):TSt:=⟨putT τ.r d E.v,setTs (setTs τ.h E.wh) E.up,E.g⟩
def ofConst:PV→Option TC
 | .i k n=>some (.c (.i k n))
 | .b x=>some (.c (.b x))
 | .s x=>some (.c (.s x))
 | .np=>some (.c .np)
 | .vs o k []=>some (.c (.nl o k))
 | .fn f []=>some (.fn f [])
 | _=>none
def ofConsts:List PV→Option (List TC)
 | []=>some []
 | p::l=>match ofConst p,ofConsts l with
  | some c,some m=>some (c::m)
  | _,_=>none
def TSt.ev (τ:TSt):Ix→TV
 | .t n=>lookT τ.r n
 | .k (.one p)=>match ofConst p with
  | some c=>.r (.one c)
  | none=>.un
 | .k (.agg l)=>match ofConsts l with
  | some m=>.r (.agg m)
  | none=>.un
def TSt.evO (τ:TSt):Ix→Option TV
 | .t n=>some (lookT τ.r n)
 | .k (.one p)=>match ofConst p with
  | some c=>some (.r (.one c))
  | none=>none
 | .k (.agg l)=>match ofConsts l with
  | some m=>some (.r (.agg m))
  | none=>none
def TSt.ev1 (τ:TSt) (x:Ix):TC :=
 match τ.ev x with
 | .r (.one c)=>c
 | _=>.un
def TV.cells:TV→Option (List TC)
 | .r (.one .un)=>none
 | .r (.one c)=>some [c]
 | .r (.agg l)=>some l
 | _=>none
def gd {α:Type} (c:Prop) [Decidable c] (x:Option α):Option α:=if c then x else none
def ix {α:Type} (l:List α) (n:Int):Option α:=if 0≤n then l[n.toNat]? else none
def bd {α β:Type} (x:Option α) (f:α→Option β):Option β:=match x with
 | some a=>f a
 | none=>none
def cnd {α:Type} (c:Bool) (x y:Option α):Option α:=match c with
 | true=>x
 | false=>y
theorem gd_some {α:Type} {c:Prop} [Decidable c] {x:Option α} {o:α} (h:gd c x=some o):c∧x=some o:=by
 unfold gd at h;split at h
 ·rename_i hc;exact ⟨hc,h⟩
 ·cases h
theorem bd_some {α β:Type} {x:Option α} {f:α→Option β} {o:β} (h:bd x f=some o):∃ a,x=some a∧f a=some o:=by
 cases x with
 | none=>cases h
 | some a=>exact ⟨a,rfl,h⟩
theorem ix_some {α:Type} {l:List α} {n:Int} {a:α} (h:ix l n=some a):0≤n∧l[n.toNat]? = some a:=by
 unfold ix at h;split at h
 ·rename_i hc;exact ⟨hc,h⟩
 ·cases h
def toSC:List TC→Option (List SC)
 | []=>some []
 | .c x::l=>match toSC l with
  | some m=>some (x::m)
  | none=>none
 | _::_=>none
def tthaw (g:Nat):Nat→List TC→List TC×List (Nat×TB)
 | _,[]=>([],[])
 | b,c::r=>match c with
  | .c (.sl true t l)=>(.ref b g l.length::(tthaw g (b+1) r).1,(b,.sl t g l)::(tthaw g (b+1) r).2)
  | .c (.nl true k)=>(.ref b g 0::(tthaw g (b+1) r).1,(b,.nb g k)::(tthaw g (b+1) r).2)
  | c=>(c::(tthaw g b r).1,(tthaw g b r).2)
def setPT (zs:List TC) (τ:TSt):List (Nat×Nat×Ix)→Option (List TC)
 | []=>some zs
 | (off,n,x)::r=>match (τ.ev x).cells with
  | some c=>match Nat.beq c.length n,Nat.ble (off+n) zs.length with
   | true,true=>setPT (splice zs off c) τ r
   | _,_=>none
  | none=>none
def setET (k:Nat) (l:List (List TC)) (τ:TSt):List (Nat×Ix)→Option (List (List TC))
 | []=>some l
 | (i,x)::r=>match (τ.ev x).cells with
  | some c=>match Nat.beq c.length k,Nat.ble (i+1) l.length with
   | true,true=>setET k (l.set i c) τ r
   | _,_=>none
  | none=>none
def toVs (t:Ty):List (List TC)→Option (List (Den t))
 | []=>some []
 | c::l=>match toSC c with
  | some x=>match ofC true t x with
   | some v=>match toVs t l with
    | some vs=>some (v::vs)
    | none=>none
   | none=>none
  | none=>none
def binT (op:BinOp) (k:IntKind) (x y:Int) {R:Type} (K:TC→Option R):Option R :=
 match op with
 | .add=>K (.c (.i k (k.wrap (x+y))))
 | .sub=>K (.c (.i k (k.wrap (x-y))))
 | .mul=>K (.c (.i k (k.wrap (x*y))))
 | .quo=>gd (y≠0) (K (.c (.i k (k.wrap (x.tdiv y)))))
 | .rem=>gd (y≠0) (K (.c (.i k (x.tmod y))))
 | .and=>K (.c (.i k (k.wrap (BitVec.ofInt k.bits x &&& BitVec.ofInt k.bits y).toNat)))
 | .or=>K (.c (.i k (k.wrap (BitVec.ofInt k.bits x ||| BitVec.ofInt k.bits y).toNat)))
 | .shr=>gd (0≤y) (K (.c (.i k (x/2 ^ min y.toNat k.bits))))
 | .xor=>K (.c (.i k (k.wrap (BitVec.ofInt k.bits x ^^^ BitVec.ofInt k.bits y).toNat)))
 | .eql=>K (.c (.b (x==y)))
 | .neq=>K (.c (.b (x != y)))
 | .lss=>K (.c (.b (decide (x<y))))
 | .leq=>K (.c (.b (decide (x≤y))))
 | .gtr=>K (.c (.b (decide (x>y))))
 | .geq=>K (.c (.b (decide (x≥y))))
 | _=>none
def eqT:List (Option IntKind)→List TC→List TC→Option Bool
 | [],[],[]=>some true
 | some q::ks,.c (.i k x)::l,.c (.i k' y)::m=>match kindB k q,kindB k' q with
  | true,true=>match eqT ks l m with
   | some r=>some ((x==y)&&r)
   | none=>none
  | _,_=>none
 | none::ks,.c (.b x)::l,.c (.b y)::m=>match eqT ks l m with
  | some r=>some ((x==y)&&r)
  | none=>none
 | _,_,_=>none
def ngB (ng t:Bool):Bool:=match ng with
 | true => !t
 | false=>t
def capT:List TC→Option (List (List SC×Option Nat))
 | []=>some []
 | .c x::r=>match capT r with
  | some l=>some (([x],none)::l)
  | none=>none
 | .rp l j::r=>match capT r with
  | some m=>some ((l,some j)::m)
  | none=>none
 | _::_=>none
def capQ:List TC→Option (List CapT)
 | []=>some []
 | .c x::r=>match capQ r with
  | some l=>some (.sc [x] none::l)
  | none=>none
 | .rp l j::r=>match capQ r with
  | some m=>some (.sc l (some j)::m)
  | none=>none
 | .vp id j::r=>match capQ r with
  | some m=>some (.vp id j::m)
  | none=>none
 | _::_=>none
def bdT (τ:TSt) (o:Option Ix) (dflt:Nat) {R:Type} (K:Nat→Option R):Option R :=
 match o with
 | none=>K dflt
 | some y=>match τ.ev1 y with
  | .c (.i _ n)=>gd (0≤n) (K n.toNat)
  | _=>none
def whole (t:Ty):TB→Option (Nat×List (Den t))
 | .nb v k=>match Nat.beq k t.sz with
  | true=>some (v,[])
  | false=>none
 | .sl u v l=>match asL u t l with
  | some m=>some (v,m)
  | none=>none
 | .hole u v _ _ pre row post memo=>match memo with
  | some l=>match asL u t l with
   | some m=>some (v,m)
   | none=>none
  | none=>match toSC row with
   | some x=>match ofC true u x with
    | some e=>match asL u t (pre++e::post) with
     | some m=>some (v,m)
     | none=>none
    | none=>none
   | none=>none
 | _=>none
def elTy:TB→Option Ty
 | .sl t _ _=>some t
 | .hole t .. => some t
 | _=>none
def hasHp (id:Nat):List TC→Bool
 | []=>false
 | .hp i _ _ _ _::r=>Nat.beq i id||hasHp id r
 | _::r=>hasHp id r
def hpIn (id:Nat):List (Nat×TV)→Bool
 | []=>false
 | (_,v)::r=>hasHp id v.cs||hpIn id r
def iaT (τ:TSt) (id v n:Nat) (k:Nat) (x:Int) {R:Type} (K:TE→Option R):Option R :=
 let go (t:Ty) (v':Nat) (l:List (Den t)):Option R:=match Nat.beq v v',Nat.beq t.sz k with
  | true,true=>bd (ix l x) fun e=>K { v:=.r (.one (.hp id τ.g n x.toNat 0)),up:=[(id,.hole t v τ.g x (l.take x.toNat) ((cells t e).map .c) (l.drop (x.toNat+1)) (some l))],rd:=[id],g:=τ.g+1 }
  | _,_=>none
 match tbAt τ.h id with
 | .sl t v' l=>go t v' l
 | .hole t v' hv y pre row post memo=>match hpIn id τ.r with
  | true=>match Nat.beq v v',Nat.beq t.sz k with
   | true,true=>gd (x=y) (K { v:=.r (.one (.hp id hv n pre.length 0)),rd:=[id],g:=τ.g })
   | _,_=>none
  | false=>match whole t (.hole t v' hv y pre row post memo) with
   | some (_,l)=>go t v' l
   | none=>match Nat.beq v v',Nat.beq t.sz k with
    | true,true=>gd (x=y) (K { v:=.r (.one (.hp id hv n pre.length 0)),rd:=[id],g:=τ.g })
    | _,_=>none
 | _=>none
inductive Srd where
 | els (t:Ty) (l:List (Den t)) (rd:List Nat)
 | row (t:Ty) (row:List TC) (rd:List Nat)
 | nil (rd:List Nat)
def freeR:List TC→Bool
 | []=>true
 | .c (.sl true _ _)::_=>false
 | .c (.nl true _)::_=>false
 | _::r=>freeR r
def srcT (τ:TSt) (k:Nat) (y:TC):Option Srd :=
 match y with
 | .ref id v n=>match tbAt τ.h id with
  | .nb v' k'=>match Nat.beq v v',Nat.beq k' k with
   | true,true=>some (.nil [id])
   | _,_=>none
  | .sl t v' l=>match Nat.beq v v',t.flat,Nat.beq t.sz k with
   | true,true,true=>some (.els t l [id])
   | _,_,_=>none
  | .hole t v' _ _ [] row [] _=>match Nat.beq v v',freeR row,Nat.beq t.sz k with
   | true,true,true=>some (.row t row [id])
   | _,_,_=>none
  | _=>none
 | .part id v lo len n=>match tbAt τ.h id with
  | .sl t v' l=>match Nat.beq v v',t.flat,Nat.beq t.sz k with
   | true,true,true=>some (.els t ((l.drop lo).take len) [id])
   | _,_,_=>none
  | _=>none
 | .c (.sl false t l)=>match t.flat,Nat.beq t.sz k with
  | true,true=>some (.els t l [])
  | _,_=>none
 | .c (.nl _ _)=>some (.nil [])
 | _=>none
def appT (τ:TSt) (b k bytes:Nat) (x y:TC) {R:Type} (K:TE→Option R):Option R :=
 match x with
 | .ref id v n=>match srcT τ k y with
  | some (.nil rd)=>match tbAt τ.h id with
   | .nb v' k'=>match Nat.beq v v',Nat.beq k' k with
    | true,true=>gd (n*bytes≤140737488355328) (K { v:=.r (.one (.ref id τ.g n)),wh:=[(id,.nb τ.g k)],rd:=id::rd,g:=τ.g+1 })
    | _,_=>none
   | tb=>match elTy tb with
    | some t=>match whole t tb,Nat.beq t.sz k with
     | some (v',l),true=>match Nat.beq v v' with
      | true=>gd (l.length*bytes≤140737488355328) (K { v:=.r (.one (.ref id τ.g l.length)),wh:=[(id,.sl t τ.g l)],rd:=id::rd,g:=τ.g+1 })
      | false=>none
     | _,_=>none
    | none=>none
  | some (.els t m rd)=>match whole t (tbAt τ.h id),Nat.beq t.sz k with
   | some (v',l),true=>match Nat.beq v v' with
    | true=>gd ((l.length+m.length)*bytes≤140737488355328) (K { v:=.r (.one (.ref id τ.g (l.length+m.length))),wh:=[(id,.sl t τ.g (l++m))],rd:=id::rd,g:=τ.g+1 })
    | false=>none
   | _,_=>none
  | some (.row t row rd)=>match whole t (tbAt τ.h id),Nat.beq t.sz k with
   | some (v',l),true=>match Nat.beq v v' with
    | true=>gd ((l.length+1)*bytes≤140737488355328) (K { v:=.r (.one (.ref id τ.g (l.length+1))),wh:=[(id,.hole t τ.g τ.g l.length l row [] none)],rd:=id::rd,g:=τ.g+1 })
    | false=>none
   | _,_=>none
  | none=>none
 | .c (.nl true _)=>match srcT τ k y with
  | some (.nil rd)=>K { v:=.r (.one (.ref b τ.g 0)),wh:=[(b,.nb τ.g k)],rd:=rd,g:=τ.g+1 }
  | some (.els t m rd)=>match Nat.beq t.sz k with
   | true=>gd (m.length*bytes≤140737488355328) (K { v:=.r (.one (.ref b τ.g m.length)),wh:=[(b,.sl t τ.g m)],rd:=rd,g:=τ.g+1 })
   | false=>none
  | some (.row t row rd)=>match Nat.beq t.sz k with
   | true=>gd (1*bytes≤140737488355328) (K { v:=.r (.one (.ref b τ.g 1)),wh:=[(b,.hole t τ.g τ.g 0 [] row [] none)],rd:=rd,g:=τ.g+1 })
   | false=>none
  | none=>none
 | _=>none
def slcT (τ:TSt) (k:Nat) (x:TC) (lo hi:Option Ix) {R:Type} (K:TE→Option R):Option R :=
 match x with
 | .ref id v n=>match tbAt τ.h id with
  | .nb v' k'=>match Nat.beq v v',Nat.beq k' k with
   | true,true=>bdT τ hi n fun h=>bdT τ lo 0 fun l=>gd (l≤h∧h≤n) (K { v:=.r (.one (.part id v l (h-l) n)),rd:=[id],g:=τ.g })
   | _,_=>none
  | .sl t v' _=>match Nat.beq v v',Nat.beq t.sz k with
   | true,true=>bdT τ hi n fun h=>bdT τ lo 0 fun l=>gd (l≤h∧h≤n) (K { v:=.r (.one (.part id v l (h-l) n)),rd:=[id],g:=τ.g })
   | _,_=>none
  | _=>none
 | .c (.sl false t l0)=>match Nat.beq t.sz k with
  | true=>bdT τ hi l0.length fun h=>bdT τ lo 0 fun l=>gd (l≤h∧h≤l0.length) (K { v:=.r (.one (.c (.sl false t ((l0.drop l).take (h-l))))),g:=τ.g })
  | false=>none
 | .c (.nl o _)=>bdT τ hi 0 fun h=>bdT τ lo 0 fun l=>gd (l≤h∧h≤0) (K { v:=.r (.one (.c (.nl false k))),g:=τ.g })
 | _=>none
def copyT (τ:TSt) (x y:TC) {R:Type} (K:TE→Option R):Option R :=
 let go (id v lo len:Nat):Option R:=match tbAt τ.h id with
  | .sl t v' l=>match Nat.beq v v',Nat.beq t.sz 1,srcT τ 1 y with
   | true,true,some (.els u m rd)=>match asL u t m with
    | some m'=>K { v:=.r (.one (.c (.i .i64 (min m'.length len:Nat)))),wh:=[(id,.sl t v' (l.take lo++m'.take len++l.drop (lo+min m'.length len)))],rd:=id::rd,g:=τ.g }
    | none=>none
   | _,_,_=>none
  | _=>none
 match x with
 | .ref id v n=>go id v 0 n
 | .part id v lo len _=>go id v lo len
 | _=>none
def teff (τ:TSt) (b:Nat) (et:Option Ty) (k:AK) {R:Type} (K:TE→Option R):Option R :=
 let one (c:TC) (rd:List Nat):Option R:=K { v:=.r (.one c),rd:=rd,g:=τ.g }
 match k with
 | .mv x=>match τ.evO x with
  | some v=>K { v:=v,g:=τ.g }
  | none=>none
 | .pick c x y=>match τ.ev1 c,τ.evO x,τ.evO y with
  | .c (.b t),some u,some v=>cnd t (K { v:=u,g:=τ.g }) (K { v:=v,g:=τ.g })
  | _,_,_=>none
 | .box x=>match (τ.ev x).cells with
  | some cs=>K { v:=.r (.one (.vp b 0)),wh:=[(b,.var false cs)],g:=τ.g }
  | none=>none
 | .alloc zs=>match ofConsts zs with
  | some cs=>K { v:=.r (.one (.vp b 0)),wh:=[(b,.var false cs)],g:=τ.g }
  | none=>none
 | .build zs ps=>match ofConsts zs with
  | some cs=>match setPT cs τ ps with
   | some l=>K { v:=.r (.agg l),g:=τ.g }
   | none=>none
  | none=>none
 | .bsl k n zs ps=>match et,ofConsts zs with
  | some t,some cs=>match setET k (List.replicate n cs) τ ps,Nat.beq k t.sz with
   | some l,true=>match t.flat || !Nat.beq n 1 with
    | true=>match toVs t l with
     | some vs=>K { v:=.r (.one (.ref b τ.g n)),wh:=[(b,.sl t τ.g vs)],g:=τ.g+1 }
     | none=>none
    | false=>match l with
     | [row]=>match Nat.beq row.length t.sz with
      | true=>K { v:=.r (.one (.ref b τ.g 1)),wh:=(b,.hole t τ.g τ.g 0 [] (tthaw τ.g (b+1) row).1 [] none)::(tthaw τ.g (b+1) row).2,g:=τ.g+1 }
      | false=>none
     | _=>none
   | _,_=>none
  | _,_=>none
 | .mks k bytes zs x=>match et,ofConsts zs,τ.ev1 x with
  | some t,some cs,.c (.i .i64 n)=>match toVs t [cs],Nat.beq k t.sz with
   | some [z],true=>gd (0≤n∧n.toNat*bytes≤140737488355328∧n.toNat≤9223372036854775807) (K { v:=.r (.one (.ref b τ.g n.toNat)),wh:=[(b,.sl t τ.g (List.replicate n.toNat z))],g:=τ.g+1 })
   | _,_=>none
  | _,_,_=>none
 | .ld1 x=>match τ.ev1 x with
  | .vp id j=>match tbAt τ.h id with
   | .var w cs=>match cs[j]? with
    | some (.c (.sl true t l))=>K { v:=.r (.one (.ref b τ.g l.length)),wh:=[(id,.var w (cs.set j (.ref b τ.g l.length))),(b,.sl t τ.g l)],rd:=[id],g:=τ.g+1 }
    | some (.c (.nl true k))=>K { v:=.r (.one (.ref b τ.g 0)),wh:=[(id,.var w (cs.set j (.ref b τ.g 0))),(b,.nb τ.g k)],rd:=[id],g:=τ.g+1 }
    | some c=>one c [id]
    | none=>none
   | _=>none
  | .hp id v n e j=>match tbAt τ.h id with
   | .hole t v0 hv y pre row post memo=>match Nat.beq v hv with
    | true=>match row[j]? with
     | some (.c (.sl true u l))=>K { v:=.r (.one (.ref b τ.g l.length)),wh:=[(id,.hole t v0 hv y pre (row.set j (.ref b τ.g l.length)) post none),(b,.sl u τ.g l)],rd:=[id],g:=τ.g+1 }
     | some (.c (.nl true k))=>K { v:=.r (.one (.ref b τ.g 0)),wh:=[(id,.hole t v0 hv y pre (row.set j (.ref b τ.g 0)) post none),(b,.nb τ.g k)],rd:=[id],g:=τ.g+1 }
     | some c=>one c [id]
     | none=>none
    | false=>none
   | _=>none
  | .rp l j=>match l[j]? with
   | some x=>one (.c x.sh) []
   | none=>none
  | .rq l=>one (.rp l 0) []
  | _=>none
 | .ld n x=>match τ.ev1 x with
  | .vp id j=>match tbAt τ.h id with
   | .var w cs=>match Nat.ble (j+n) cs.length with
    | true=>match tthaw τ.g b ((cs.drop j).take n) with
     | (_,[])=>K { v:=.r (.agg ((cs.drop j).take n)),rd:=[id],g:=τ.g }
     | (l,ws)=>K { v:=.r (.agg l),wh:=(id,.var w (splice cs j l))::ws,rd:=[id],g:=τ.g+1 }
    | false=>none
   | _=>none
  | .hp id v m e j=>match tbAt τ.h id with
   | .hole t v0 hv y pre row post memo=>match Nat.beq v hv,Nat.ble (j+n) row.length with
    | true,true=>match tthaw τ.g b ((row.drop j).take n) with
     | (_,[])=>K { v:=.r (.agg ((row.drop j).take n)),rd:=[id],g:=τ.g }
     | (l,ws)=>K { v:=.r (.agg l),wh:=(id,.hole t v0 hv y pre (splice row j l) post none)::ws,rd:=[id],g:=τ.g+1 }
    | _,_=>none
   | _=>none
  | .rp l j=>match Nat.ble (j+n) l.length with
   | true=>K { v:=.r (.agg (((l.drop j).take n).map fun x=>.c x.sh)),g:=τ.g }
   | false=>none
  | _=>none
 | .st n x y=>match τ.ev1 x,(τ.ev y).cells with
  | .vp id j,some ys=>match tbAt τ.h id with
   | .var w cs=>match Nat.beq ys.length n,Nat.ble (j+n) cs.length with
    | true,true=>K { v:=.un,wh:=[(id,.var w (splice cs j ys))],g:=τ.g }
    | _,_=>none
   | _=>none
  | .hp id v m e j,some ys=>match tbAt τ.h id with
   | .hole t v0 hv y pre row post memo=>match Nat.beq v hv,Nat.beq ys.length n,Nat.ble (j+n) row.length with
    | true,true,true=>K { v:=.un,wh:=[(id,.hole t v0 hv y pre (splice row j ys) post none)],g:=τ.g }
    | _,_,_=>none
   | _=>none
  | _,_=>none
 | .nchk x=>match τ.ev1 x with
  | .vp id j=>one (.vp id j) []
  | .hp id v n e j=>one (.hp id v n e j) []
  | .rp l j=>one (.rp l j) []
  | .rq l=>one (.rq l) []
  | _=>none
 | .bin bo op x y=>match τ.ev1 x,τ.ev1 y with
  | .c (.i k m),.c (.i k' n)=>match kindB k k' with
   | true=>binT op k m n fun c=>one c []
   | false=>none
  | .c (.b m),.c (.b n)=>match bo,op with
   | true,.eql=>one (.c (.b (m==n))) []
   | true,.neq=>one (.c (.b (m != n))) []
   | _,_=>none
  | _,_=>none
 | .eqs ng ks x y=>match τ.ev x,τ.ev y with
  | .r (.agg l),.r (.agg m)=>match eqT ks l m with
   | some r=>one (.c (.b (ngB ng r))) []
   | none=>none
  | _,_=>none
 | .not x=>match τ.ev1 x with
  | .c (.b t)=>one (.c (.b (!t))) []
  | _=>none
 | .neg x=>match τ.ev1 x with
  | .c (.i k n)=>one (.c (.i k (k.wrap (0-n)))) []
  | _=>none
 | .conv k x=>match τ.ev1 x with
  | .c (.i _ n)=>one (.c (.i k (k.wrap n))) []
  | _=>none
 | .slc k x lo hi=>slcT τ k (τ.ev1 x) lo hi K
 | .fa off x=>match τ.ev1 x with
  | .vp id j=>one (.vp id (j+off)) []
  | .hp id v n e j=>one (.hp id v n e (j+off)) []
  | .rp l j=>one (.rp l (j+off)) []
  | _=>none
 | .ia k x y=>match τ.ev1 x,τ.ev1 y with
  | .ref id v n,.c (.i _ m)=>iaT τ id v n k m K
  | .part id v lo len n,.c (.i _ m)=>gd (0≤m∧m<len) (iaT τ id v n k (lo+m) K)
  | .c (.sl false t l),.c (.i _ m)=>match Nat.beq t.sz k with
   | true=>bd (ix l m) fun e=>one (.rp (cells t e) 0) []
   | false=>none
  | _,_=>none
 | .len x=>match τ.ev1 x with
  | .ref _ _ n=>one (.c (.i .i64 n)) []
  | .part _ _ _ len _=>one (.c (.i .i64 len)) []
  | .c (.sl _ _ l)=>one (.c (.i .i64 l.length)) []
  | .c (.nl _ _)=>one (.c (.i .i64 0)) []
  | _=>none
 | .app k bytes x y=>appT τ b k bytes (τ.ev1 x) (τ.ev1 y) K
 | .copy x y=>copyT τ (τ.ev1 x) (τ.ev1 y) K
 | .mn x y=>match τ.ev1 x,τ.ev1 y with
  | .c (.i k m),.c (.i _ n)=>one (.c (.i k (if n<m then n else m))) []
  | _,_=>none
 | .mx x y=>match τ.ev1 x,τ.ev1 y with
  | .c (.i k m),.c (.i _ n)=>one (.c (.i k (if n>m then n else m))) []
  | _,_=>none
 | .ext i x=>match τ.ev x with
  | .tup l=>match l[i]? with
   | some y=>K { v:=.r y,g:=τ.g }
   | none=>none
  | _=>none
 | .mkf f l=>match capT (l.map τ.ev1) with
  | some m=>one (.fn f m) []
  | none=>match capQ (l.map τ.ev1) with
   | some m=>one (.fq f m) []
   | none=>none
 | _=>none
def vlen:TB→Option (Nat×Nat)
 | .nb v _=>some (v,0)
 | .sl _ v l=>some (v,l.length)
 | .hole _ v _ _ pre _ post _=>some (v,pre.length+1+post.length)
 | _=>none
def hinf:TB→Option (Nat×Nat×Nat)
 | .hole _ _ hv _ pre _ post _=>some (hv,pre.length+1+post.length,pre.length)
 | _=>none
def cok (P:Program) (h:List TB) (g:Nat):TC→Prop
 | .ref id v n=>v<g∧∀ m,vlen (tbAt h id)=some (v,m)→n=m
 | .part id v lo len n=>(v<g∧∀ m,vlen (tbAt h id)=some (v,m)→n=m)∧lo+len≤n
 | .hp id v n e _=>v<g∧∀ m q,hinf (tbAt h id)=some (v,m,q)→n=m∧e=q
 | .fv f m a r p=>(∀ q∈m,NoRef q∧q.frz=true)∧∀ x y,p x=some y→Con P f (.v (mkR1 a ((enc a x).map PV.sh))::m.map fun q=>.v (.one q)) [mkR1 r (enc r y)]
 | _=>True
def bok (P:Program) (h:List TB) (g:Nat):TB→Prop
 | .var _ cs=>∀ c∈cs,cok P h g c
 | .nb v _=>v<g
 | .sl _ v _=>v<g
 | .hole t v hv n pre row post memo=>v<g∧hv<g∧(∀ c∈row,cok P h g c)∧row.length=t.sz∧(0≤n∧pre.length=n.toNat)∧∀ l,memo=some l→l.map (enc t)=pre.map (enc t)++row.map TC.pv::post.map (enc t)
 | _=>True
structure Inv P (τ:TSt):Prop where
 regs:∀ e∈τ.r,∀ c∈e.2.cs,cok P τ.h τ.g c
 blks:∀ id,bok P τ.h τ.g (tbAt τ.h id)
def HLe (h:List TB) (g:Nat) (h':List TB) (g':Nat):Prop :=
 g≤g'∧(∀ id v m,v<g→vlen (tbAt h' id)=some (v,m)→vlen (tbAt h id)=some (v,m))∧∀ id v m q,v<g→hinf (tbAt h' id)=some (v,m,q)→hinf (tbAt h id)=some (v,m,q)
section
variable {P:Program} {h h':List TB} {g g':Nat} {τ:TSt} {n:Nat}
theorem HLe.refl:HLe h g h g:=⟨Nat.le_refl _,fun _ _ _ _ e=>e,fun _ _ _ _ _ e=>e⟩
theorem HLe.cok (k:HLe h g h' g') {c:TC} (hc:cok P h g c):cok P h' g' c:=by
 cases c with
 | ref id v n=>exact ⟨Nat.lt_of_lt_of_le hc.1 k.1,fun m e=>hc.2 m (k.2.1 id v m hc.1 e)⟩
 | part id v lo len n=>exact ⟨⟨Nat.lt_of_lt_of_le hc.1.1 k.1,fun m e=>hc.1.2 m (k.2.1 id v m hc.1.1 e)⟩,hc.2⟩
 | hp id v n e j=>exact ⟨Nat.lt_of_lt_of_le hc.1 k.1,fun m q x=>hc.2 m q (k.2.2 id v m q hc.1 x)⟩
 | fv f m a r p=>exact hc
 | _=>trivial
theorem HLe.bok (k:HLe h g h' g') {b:TB} (hb:bok P h g b):bok P h' g' b:=by
 have k1:=k.1;cases b with
 | var w cs=>exact fun c hc=>k.cok (hb c hc)
 | nb v k=>exact Nat.lt_of_lt_of_le (show v<g from hb) k1
 | sl t v l=>exact Nat.lt_of_lt_of_le (show v<g from hb) k1
 | hole t v hv n pre row post memo=>exact ⟨Nat.lt_of_lt_of_le hb.1 k1,Nat.lt_of_lt_of_le hb.2.1 k1,fun c hc=>k.cok (hb.2.2.1 c hc),hb.2.2.2⟩
 | _=>trivial
theorem tbAt_setT:∀ (l:List TB) (i:Nat) (x:TB) (j:Nat),tbAt (setT l i x) j=if j=i then x else tbAt l j
 | [],0,x,0=>by simp [setT,tbAt]
 | [],0,x,j+1=>by simp [setT,tbAt]
 | [],i+1,x,0=>by simp [setT,tbAt]
 | [],i+1,x,j+1=>by simp [setT,tbAt,tbAt_setT [] i x j]
 | s::r,0,x,0=>by simp [setT,tbAt]
 | s::r,0,x,j+1=>by simp [setT,tbAt]
 | s::r,i+1,x,0=>by simp [setT,tbAt]
 | s::r,i+1,x,j+1=>by simp [setT,tbAt,tbAt_setT r i x j]
theorem slotAt_map:∀ (l:List TB) (i:Nat),slotAt (l.map TB.slot) i=(tbAt l i).slot
 | [],i=>by cases i<;>rfl
 | s::r,0=>rfl
 | s::r,i+1=>slotAt_map r i
theorem setAt_map:∀ (l:List TB) (i:Nat) (x:TB),setAt (l.map TB.slot) i x.slot=(setT l i x).map TB.slot
 | [],0,x=>rfl
 | [],i+1,x=>by simp [setAt,setT,TB.slot];exact setAt_map [] i x
 | s::r,0,x=>rfl
 | s::r,i+1,x=>by simp [setAt,setT,setAt_map r i x]
theorem setT_same:∀ (l:List TB) (i:Nat) (x:TB),i<l.length→(tbAt l i).slot=x.slot→(setT l i x).map TB.slot=l.map TB.slot
 | [],i,x,hi,_=>by cases hi
 | s::r,0,x,_,e=>by simp [setT];exact e.symm
 | s::r,i+1,x,hi,e=>by simp [setT];exact setT_same r i x (by simpa using hi) e
theorem tbAt_lt:∀ {l:List TB} {i:Nat},tbAt l i≠.fresh→i<l.length
 | [],i,e=>(e (by cases i<;>rfl)).elim
 | s::r,0,e=>by simp
 | s::r,i+1,e=>by simpa using tbAt_lt (l:=r) (i:=i) e
theorem tbAt_ge:∀ (l:List TB) (i:Nat),l.length≤i→tbAt l i=.fresh
 | [],i,_=>by cases i<;>rfl
 | s::r,0,e=>by simp at e
 | s::r,i+1,e=>tbAt_ge r i (by simpa using e)
theorem img_reg (t:Nat):(img n τ).reg t=(lookT τ.r t).rv:=by
 show look (τ.r.map fun e=>(e.1,e.2.rv)) t=_;induction τ.r with
 | nil=>rfl
 | cons e l ih =>
  obtain ⟨s,v⟩:=e;simp only [List.map_cons,look,lookT];by_cases h:t=s
  ·subst h;simp [Nat.beq_refl]
  ·have:Nat.beq t s=false:=by
    cases hb:Nat.beq t s with
    | false=>rfl
    | true=>exact (h (nbe hb)).elim
   simp [h,this,ih]
theorem img_slot (id:Nat):(img n τ).slot id=(tbAt τ.h id).slot:=slotAt_map _ _
theorem img_len:(img n τ).H.length=τ.h.length:=by simp [img]
theorem img_fresh (b:Nat) (hb:τ.h.length≤b):(img n τ).slot b=.fresh:=by rw [img_slot,tbAt_ge _ _ hb];rfl
theorem pv_un {c:TC} (h:c.pv=.un):c=.un:=by
 cases c with
 | c x=>cases x<;>cases h
 | un=>rfl
 | _=>cases h
theorem ofConst_ok {p:PV} {c:TC} (h:ofConst p=some c):c.pv=p∧∀ hh g,cok P hh g c:=by
 unfold ofConst at h;split at h<;>first|(injection h with h;subst h;exact ⟨rfl,fun _ _=>trivial⟩)|cases h
theorem ofConsts_ok:∀ {l:List PV} {m:List TC},ofConsts l=some m→m.map TC.pv=l∧∀ c∈m,∀ hh g,cok P hh g c
 | [],m,h=>by injection h with h;subst h;simp
 | p::l,m,h=>by
  unfold ofConsts at h;split at h
  ·rename_i c m' h1 h2;injection h with h;subst h;obtain ⟨e1,k1⟩:=ofConst_ok h1;obtain ⟨e2,k2⟩:=ofConsts_ok h2;refine ⟨by simp [e1,e2],fun c' hc => ?_⟩;rcases List.mem_cons.1 hc with rfl|hc
   ·exact k1
   ·exact k2 c' hc
  ·cases h
theorem evO_ok (hI:Inv P τ) {x:Ix} {v:TV} (h:τ.evO x=some v):(img n τ).ev x=v.rv∧∀ c∈v.cs,cok P τ.h τ.g c:=by
 unfold TSt.evO at h;split at h
 ·injection h with h;subst h;refine ⟨img_reg _,fun c hc => ?_⟩;rename_i t;have key:∀ (r:List (Nat×TV)),(∀ e∈r,∀ c∈e.2.cs,cok P τ.h τ.g c)→c∈(lookT r t).cs→cok P τ.h τ.g c:=by
   intro r;induction r with
   | nil=>intro _ hc;simp [lookT,TV.cs] at hc
   | cons e r ih =>
    intro hr hc;obtain ⟨s,v⟩:=e;simp only [lookT] at hc;split at hc
    ·exact hr (s,v) (by simp) c hc
    ·exact ih (fun e he=>hr e (by simp [he])) hc
  exact key _ hI.regs hc
 ·rename_i p;split at h
  ·rename_i c hc;injection h with h;subst h;obtain ⟨e1,k1⟩:=ofConst_ok hc;refine ⟨?_,fun c' hc' => ?_⟩
   ·show RV.r (.one p)=_;rw [← e1];rfl
   ·have:c'=c:=by simpa [TV.cs,TR.cs] using hc'
    subst this;exact k1 _ _
  ·cases h
 ·rename_i l;split at h
  ·rename_i m hm;injection h with h;subst h;obtain ⟨e1,k1⟩:=ofConsts_ok hm;refine ⟨?_,fun c' hc'=>k1 c' hc' _ _⟩;show RV.r (.agg l)=_;rw [← e1];rfl
  ·cases h
theorem ev_evO {x:Ix} (h:τ.ev x≠.un):τ.evO x=some (τ.ev x):=by
 unfold TSt.ev at h ⊢;unfold TSt.evO;split at h
 ·rfl
 ·split at h
  ·rename_i hc;simp [hc]
  ·exact (h rfl).elim
 ·split at h
  ·rename_i hc;simp [hc]
  ·exact (h rfl).elim
theorem ev1_ok (hI:Inv P τ) {x:Ix} {c:TC} (h:τ.ev1 x=c) (hc:c≠.un):(img n τ).ev1 x=c.pv∧cok P τ.h τ.g c:=by
 unfold TSt.ev1 at h;split at h
 ·rename_i c' hv;subst h;obtain ⟨e1,k1⟩:=evO_ok (n:=n) hI (ev_evO (x:=x) (by rw [hv];simp));rw [hv] at e1 k1;refine ⟨?_,k1 _ (by simp [TV.cs,TR.cs])⟩;unfold St.ev1;rw [e1];rfl
 ·exact (hc h.symm).elim
theorem cells_ok (hI:Inv P τ) {x:Ix} {cs:List TC} (h:(τ.ev x).cells=some cs):((img n τ).ev x).cells=some (cs.map TC.pv)∧∀ c∈cs,cok P τ.h τ.g c:=by
 have hne:τ.ev x≠.un:=by intro e;rw [e] at h;cases h
 obtain ⟨e1,k1⟩:=evO_ok (n:=n) hI (ev_evO (x:=x) hne);rw [e1];generalize τ.ev x=v at h k1;unfold TV.cells at h;split at h
 ·cases h
 ·rename_i c hc;injection h with h;subst h;refine ⟨?_,fun c' hc'=>k1 c' hc'⟩;show RV.cells (.r (.one c.pv))=_;unfold RV.cells;split
  ·rename_i e;injection e with e;injection e with e;exact (hc (pv_un e)).elim
  ·rename_i e;injection e with e;injection e with e;subst e;rfl
  ·rename_i e;injection e with e;cases e
  ·rename_i e1 e2 e3;exact (e2 _ rfl).elim
 ·rename_i l;injection h with h;subst h;exact ⟨rfl,fun c' hc'=>k1 c' hc'⟩
 ·cases h
end
structure OkE (P:Program) (τ:TSt) (E:TE):Prop where
 v:∀ c∈E.v.cs,cok P (setTs (setTs τ.h E.wh) E.up) E.g c
 le:HLe τ.h τ.g (setTs (setTs τ.h E.wh) E.up) E.g
 blks:∀ id,bok P (setTs (setTs τ.h E.wh) E.up) E.g (tbAt (setTs (setTs τ.h E.wh) E.up) id)
 same:(setTs (setTs τ.h E.wh) E.up).map TB.slot=(setTs τ.h E.wh).map TB.slot
section
variable {P:Program} {τ:TSt} {n:Nat} {E:TE}
theorem OkE.pure (hI:Inv P τ) {v:TV} {rd:List Nat} (hv:∀ c∈v.cs,cok P τ.h τ.g c):OkE P τ { v:=v,rd:=rd,g:=τ.g } :=
 ⟨hv,HLe.refl,hI.blks,rfl⟩
theorem setTs_slots:∀ (l:List (Nat×TB)) (h:List TB) (r:List (Nat×RV)),setSlots ⟨⟨n,r⟩,[],h.map TB.slot⟩ (l.map fun e=>(e.1,e.2.slot))=⟨⟨n,r⟩,[],(setTs h l).map TB.slot⟩
 | [],h,r=>rfl
 | (i,x)::l,h,r=>by
  show setSlots (St.setSlot _ i x.slot) _=_;unfold St.setSlot;simp only [setAt_map];exact setTs_slots l (setT h i x) r
theorem img_app (h:OkE P τ E) (d:Option Nat):(img n τ).app d E.img=img n (τ.app d E):=by
 have e:=setTs_slots (n:=n) E.wh τ.h (τ.r.map fun e=>(e.1,e.2.rv));cases d with
 | none =>
  show setSlots (img n τ) _=_;show setSlots ⟨⟨n,τ.r.map fun e=>(e.1,e.2.rv)⟩,[],τ.h.map TB.slot⟩ (E.wh.map fun e=>(e.1,e.2.slot))=_;rw [e];simp only [img,TSt.app,putT,h.same]
 | some t =>
  show (setSlots (img n τ) _).put t E.v.rv=_;show (setSlots ⟨⟨n,τ.r.map fun e=>(e.1,e.2.rv)⟩,[],τ.h.map TB.slot⟩ (E.wh.map fun e=>(e.1,e.2.slot))).put t E.v.rv=_;rw [e];simp only [img,TSt.app,putT,St.put,h.same,List.map_cons]
theorem inv_app (hI:Inv P τ) (h:OkE P τ E) (d:Option Nat):Inv P (τ.app d E) where
 regs:=fun e he c hc=>by
  cases d with
  | none=>exact h.le.cok (hI.regs e he c hc)
  | some t =>
   rcases List.mem_cons.1 he with rfl|he
   ·exact h.v c hc
   ·exact h.le.cok (hI.regs e he c hc)
 blks:=h.blks
end
theorem setTs_not:∀ {l:List (Nat×TB)} {h:List TB} {i:Nat},i∉l.map (·.1)→tbAt (setTs h l) i=tbAt h i
 | [],h,i,_=>rfl
 | (j,s)::l,h,i,hn=>by
  simp only [List.map_cons,List.mem_cons,not_or] at hn;simp only [setTs];rw [setTs_not hn.2,tbAt_setT,if_neg hn.1]
theorem setTs_get:∀ {l:List (Nat×TB)} {h:List TB} {i:Nat} {x:TB},(l.map (·.1)).Nodup→(i,x)∈l→tbAt (setTs h l) i=x
 | (j,t)::l,h,i,x,hn,hm=>by
  obtain ⟨h1,h2⟩:=List.nodup_cons.1 hn;simp only [setTs];rcases List.mem_cons.1 hm with e|hm
  ·injection e with e1 e2;subst e1 e2;rw [setTs_not h1,tbAt_setT,if_pos rfl]
  ·exact setTs_get h2 hm
theorem setTs_or:∀ (l:List (Nat×TB)) (h:List TB) (i:Nat),tbAt (setTs h l) i=tbAt h i∨∃ x,(i,x)∈l∧tbAt (setTs h l) i=x
 | [],h,i=>.inl rfl
 | (j,t)::l,h,i=>by
  simp only [setTs];rcases setTs_or l (setT h j t) i with e|⟨x,hx,e⟩
  ·rw [e,tbAt_setT];by_cases hi:i=j
   ·subst hi;exact .inr ⟨t,by simp,by simp⟩
   ·simp [hi]
  ·exact .inr ⟨x,by simp [hx],e⟩
section
variable {P:Program} {τ:TSt} {n b:Nat} {E:TE} {R:Type} {K:TE→Option R} {r:R}
theorem OkE.wr (hI:Inv P τ) {v:TV} {wh:List (Nat×TB)} {rd:List Nat} {g:Nat} (hg:τ.g≤g)
  (hw:∀ e∈wh,(∀ v m,v<τ.g→vlen e.2=some (v,m)→vlen (tbAt τ.h e.1)=some (v,m))∧∀ v m q,v<τ.g→hinf e.2=some (v,m,q)→hinf (tbAt τ.h e.1)=some (v,m,q))
  (hb:HLe τ.h τ.g (setTs τ.h wh) g→∀ e∈wh,bok P (setTs τ.h wh) g e.2) (hv:HLe τ.h τ.g (setTs τ.h wh) g→∀ c∈v.cs,cok P (setTs τ.h wh) g c):OkE P τ { v:=v,wh:=wh,rd:=rd,g:=g }:=by
 have le:HLe τ.h τ.g (setTs τ.h wh) g:=by
  refine ⟨hg,fun id v m hv e => ?_,fun id v m q hv e => ?_⟩
  ·rcases setTs_or wh τ.h id with k|⟨x,hx,k⟩
   ·rw [k] at e;exact e
   ·rw [k] at e;exact (hw _ hx).1 v m hv e
  ·rcases setTs_or wh τ.h id with k|⟨x,hx,k⟩
   ·rw [k] at e;exact e
   ·rw [k] at e;exact (hw _ hx).2 v m q hv e
 refine ⟨hv le,le,fun id => ?_,rfl⟩;show bok P (setTs τ.h wh) g (tbAt (setTs τ.h wh) id);rcases setTs_or wh τ.h id with k|⟨x,hx,k⟩
 ·rw [k];exact le.bok (hI.blks id)
 ·rw [k];exact hb le _ hx
def Prm (P:Program) (n:Nat) (τ:TSt) (b:Nat) (k:AK) (K:TE→Option R) (r:R):Prop :=
 effK (img n τ) b k fun E=>∃ te,E=te.img∧OkE P τ te∧K te=some r
theorem fin (hI:Inv P τ) {v:TV} {rd:List Nat} {E:Eff} (hE:E={ v:=v.rv,rd:=rd }) (hv:∀ c∈v.cs,cok P τ.h τ.g c) (h:K { v:=v,rd:=rd,g:=τ.g }=some r):∃ te,E=te.img∧OkE P τ te∧K te=some r :=
 ⟨{ v:=v,rd:=rd,g:=τ.g },hE,OkE.pure hI hv,h⟩
theorem fin1 (hI:Inv P τ) {c:TC} {rd:List Nat} {E:Eff} (hE:E={ v:=.r (.one c.pv),rd:=rd }) (hv:cok P τ.h τ.g c) (h:K { v:=.r (.one c),rd:=rd,g:=τ.g }=some r):∃ te,E=te.img∧OkE P τ te∧K te=some r :=
 fin hI (v:=.r (.one c)) hE (fun c' hc=>by
                        have:c'=c:=by simpa [TV.cs,TR.cs] using hc
                        subst this;exact hv) h
theorem cnd_some {c:Bool} {x y:Option R} (h:cnd c x y=some r):(c=true∧x=some r)∨(c=false∧y=some r):=by
 cases c
 ·exact .inr ⟨rfl,h⟩
 ·exact .inl ⟨rfl,h⟩
theorem p_mv (hI:Inv P τ) {et:Option Ty} {x:Ix} (h:teff τ b et (.mv x) K=some r):Prm P n τ b (.mv x) K r:=by
 simp only [teff] at h;split at h
 ·rename_i v hv;obtain ⟨e1,k1⟩:=evO_ok (n:=n) hI hv;exact fin hI (v:=v) (by rw [e1]) k1 h
 ·cases h
theorem p_pick (hI:Inv P τ) {et:Option Ty} {c x y:Ix} (h:teff τ b et (.pick c x y) K=some r):Prm P n τ b (.pick c x y) K r:=by
 simp only [teff] at h;split at h
 ·rename_i t u v hc hu hv;obtain ⟨e0,_⟩:=ev1_ok (n:=n) hI hc (by simp);obtain ⟨e1,k1⟩:=evO_ok (n:=n) hI hu;obtain ⟨e2,k2⟩:=evO_ok (n:=n) hI hv;simp only [Prm,effK,e0,TC.pv,SC.pv];rcases cnd_some h with ⟨rfl,h⟩|⟨rfl,h⟩
  ·exact fin hI (v:=u) (by rw [e1]) k1 h
  ·exact fin hI (v:=v) (by rw [e2]) k2 h
 ·cases h
theorem newOk (hI:Inv P τ) {tb:TB} {c:TC} {rd:List Nat} {g:Nat} (hg:τ.g≤g) (h1:∀ v m,v<τ.g→vlen tb≠some (v,m)) (h2:∀ v m q,v<τ.g→hinf tb≠some (v,m,q))
  (hb:HLe τ.h τ.g (setT τ.h b tb) g→bok P (setT τ.h b tb) g tb) (hc:cok P (setT τ.h b tb) g c):OkE P τ { v:=.r (.one c),wh:=[(b,tb)],rd:=rd,g:=g }:=by
 refine OkE.wr hI hg (fun e he => ?_) (fun le e he => ?_) (fun le c' hc' => ?_)
 ·obtain rfl:e=(b,tb):=by simpa using he
  exact ⟨fun v m hv e=>(h1 v m hv e).elim,fun v m q hv e=>(h2 v m q hv e).elim⟩
 ·obtain rfl:e=(b,tb):=by simpa using he
  exact hb le
 ·have:c'=c:=by simpa [TV.cs,TR.cs] using hc'
  subst this;exact hc
theorem var_vlen {w:Bool} {cs:List TC} {v m:Nat}:vlen (.var w cs)≠some (v,m):=by simp [vlen]
theorem var_hinf {w:Bool} {cs:List TC} {v m q:Nat}:hinf (.var w cs)≠some (v,m,q):=by simp [hinf]
theorem p_box (hI:Inv P τ) (hb:τ.h.length≤b) {et:Option Ty} {x:Ix} (h:teff τ b et (.box x) K=some r):Prm P n τ b (.box x) K r:=by
 simp only [teff] at h;split at h
 ·rename_i cs hc;obtain ⟨e1,k1⟩:=cells_ok (n:=n) hI hc;simp only [Prm,effK,e1];refine ⟨img_fresh b hb,_,?_,newOk (c:=.vp b 0) hI (Nat.le_refl _) (fun _ _ _=>var_vlen) (fun _ _ _ _=>var_hinf) (fun le c hc=>le.cok (k1 c hc)) trivial,h⟩;simp [TE.img,TV.rv,TR.r1,TC.pv,TB.slot]
 ·cases h
theorem p_alloc (hI:Inv P τ) (hb:τ.h.length≤b) {et:Option Ty} {zs:List PV} (h:teff τ b et (.alloc zs) K=some r):Prm P n τ b (.alloc zs) K r:=by
 simp only [teff] at h;split at h
 ·rename_i cs hc;obtain ⟨rfl,k1⟩:=ofConsts_ok (P:=P) hc;simp only [Prm,effK];refine ⟨img_fresh b hb,_,?_,newOk (c:=.vp b 0) hI (Nat.le_refl _) (fun _ _ _=>var_vlen) (fun _ _ _ _=>var_hinf) (fun le c hc=>k1 c hc _ _) trivial,h⟩;simp [TE.img,TV.rv,TR.r1,TC.pv,TB.slot]
 ·cases h
theorem splice_map {α β:Type} (f:α→β) (l:List α) (pos:Nat) (ys:List α):(splice l pos ys).map f=splice (l.map f) pos (ys.map f):=by simp [splice]
theorem mem_splice {α:Type} {l:List α} {pos:Nat} {ys:List α} {x:α} (h:x∈splice l pos ys):x∈l∨x∈ys:=by
 simp only [splice,lma] at h;rcases h with (h|h)|h
 ·exact .inl (List.mem_of_mem_take h)
 ·exact .inr h
 ·exact .inl (List.mem_of_mem_drop h)
theorem setPT_ok (hI:Inv P τ):∀ {ps:List (Nat×Nat×Ix)} {zs l:List TC} {Q:List PV→Prop},setPT zs τ ps=some l→(∀ c∈zs,cok P τ.h τ.g c)→((∀ c∈l,cok P τ.h τ.g c)→Q (l.map TC.pv))→setParts (zs.map TC.pv) (img n τ) ps Q
 | [],zs,l,Q,h,hz,hq=>by injection h with h;subst h;exact hq hz
 | (off,m,x)::ps,zs,l,Q,h,hz,hq=>by
  simp only [setPT] at h;split at h
  ·rename_i c hc;split at h
   ·rename_i h1 h2;obtain ⟨e1,k1⟩:=cells_ok (n:=n) hI hc;refine ⟨c.map TC.pv,e1,by simpa using nbe h1,by simpa using Nat.le_of_ble_eq_true h2,?_⟩;rw [← splice_map];exact setPT_ok hI h (fun c' hc'=>(mem_splice hc').elim (hz c') (k1 c')) hq
   ·cases h
  ·cases h
theorem p_build (hI:Inv P τ) {et:Option Ty} {zs:List PV} {ps:List (Nat×Nat×Ix)} (h:teff τ b et (.build zs ps) K=some r):Prm P n τ b (.build zs ps) K r:=by
 simp only [teff] at h;split at h
 ·rename_i cs hc;split at h
  ·rename_i l hl;obtain ⟨rfl,k1⟩:=ofConsts_ok (P:=P) hc;exact setPT_ok hI hl (fun c hc=>k1 c hc _ _) fun k=>fin hI (v:=.r (.agg l)) rfl k h
  ·cases h
 ·cases h
theorem binT_ok {op:BinOp} {k:IntKind} {x y:Int} {K:TC→Option R} {Q:PV→Prop} (h:binT op k x y K=some r) (hq:∀ x:SC,K (.c x)=some r→Q x.pv):binI op k x y Q:=by
 unfold binT at h;unfold binI;split at h<;>first
  | exact hq _ h
  | (obtain ⟨h1,h⟩:=gd_some h;exact ⟨h1,hq _ h⟩)
  | cases h
theorem p_bin (hI:Inv P τ) {et:Option Ty} {bo:Bool} {op:BinOp} {x y:Ix} (h:teff τ b et (.bin bo op x y) K=some r):Prm P n τ b (.bin bo op x y) K r:=by
 simp only [teff] at h;split at h
 ·rename_i k m k' m' hx hy;obtain ⟨e1,_⟩:=ev1_ok (n:=n) hI hx (by simp);obtain ⟨e2,_⟩:=ev1_ok (n:=n) hI hy (by simp);split at h
  ·rename_i hk;simp only [Prm,effK,e1,e2,TC.pv,SC.pv];exact ⟨kindB_ok hk,binT_ok h fun x hx=>fin1 hI (c:=.c x) rfl trivial hx⟩
  ·cases h
 ·rename_i m m' hx hy;obtain ⟨e1,_⟩:=ev1_ok (n:=n) hI hx (by simp);obtain ⟨e2,_⟩:=ev1_ok (n:=n) hI hy (by simp);simp only [Prm,effK,e1,e2,TC.pv,SC.pv];split at h
  ·exact ⟨rfl,fin1 hI (c:=.c (.b (m==m'))) rfl trivial h⟩
  ·exact ⟨rfl,fin1 hI (c:=.c (.b (m != m'))) rfl trivial h⟩
  ·cases h
 ·cases h
theorem eqT_ok:∀ {ks:List (Option IntKind)} {l m:List TC} {t:Bool} {Q:Bool→Prop},eqT ks l m=some t→Q t→eqCells ks (l.map TC.pv) (m.map TC.pv) Q
 | ks,l,m,t,Q,h,hq=>by
  unfold eqT at h;split at h
  ·injection h with h;subst h;exact hq
  ·rename_i q ks k x l k' y m;split at h
   ·rename_i h1 h2;split at h
    ·rename_i r hr;injection h with h;subst h;exact ⟨kindB_ok h1,kindB_ok h2,eqT_ok (Q:=fun r=>Q ((x==y)&&r)) hr hq⟩
    ·cases h
   ·cases h
  ·rename_i ks x l y m;split at h
   ·rename_i r hr;injection h with h;subst h;exact eqT_ok (Q:=fun r=>Q ((x==y)&&r)) hr hq
   ·cases h
  ·cases h
theorem ev_agg (hI:Inv P τ) {x:Ix} {l:List TC} (h:τ.ev x=.r (.agg l)):(img n τ).ev x=.r (.agg (l.map TC.pv)):=by
 obtain ⟨e,_⟩:=evO_ok (n:=n) hI (ev_evO (x:=x) (by rw [h];simp));rw [e,h];rfl
theorem p_eqs (hI:Inv P τ) {et:Option Ty} {ng:Bool} {ks:List (Option IntKind)} {x y:Ix} (h:teff τ b et (.eqs ng ks x y) K=some r):Prm P n τ b (.eqs ng ks x y) K r:=by
 simp only [teff] at h;split at h
 ·rename_i l m hx hy;split at h
  ·rename_i t ht;simp only [Prm,effK,ev_agg (n:=n) hI hx,ev_agg (n:=n) hI hy];refine eqT_ok ht (fin1 hI (c:=.c (.b (ngB ng t))) ?_ trivial h);cases ng<;>rfl
  ·cases h
 ·cases h
theorem p_not (hI:Inv P τ) {et:Option Ty} {x:Ix} (h:teff τ b et (.not x) K=some r):Prm P n τ b (.not x) K r:=by
 simp only [teff] at h;split at h
 ·rename_i t hx;obtain ⟨e1,_⟩:=ev1_ok (n:=n) hI hx (by simp);simp only [Prm,effK,e1,TC.pv,SC.pv];exact fin1 hI (c:=.c (.b (!t))) rfl trivial h
 ·cases h
theorem p_neg (hI:Inv P τ) {et:Option Ty} {x:Ix} (h:teff τ b et (.neg x) K=some r):Prm P n τ b (.neg x) K r:=by
 simp only [teff] at h;split at h
 ·rename_i k m hx;obtain ⟨e1,_⟩:=ev1_ok (n:=n) hI hx (by simp);simp only [Prm,effK,e1,TC.pv,SC.pv];exact fin1 hI (c:=.c (.i k (k.wrap (0-m)))) rfl trivial h
 ·cases h
theorem p_conv (hI:Inv P τ) {et:Option Ty} {k:IntKind} {x:Ix} (h:teff τ b et (.conv k x) K=some r):Prm P n τ b (.conv k x) K r:=by
 simp only [teff] at h;split at h
 ·rename_i k' m hx;obtain ⟨e1,_⟩:=ev1_ok (n:=n) hI hx (by simp);simp only [Prm,effK,e1,TC.pv,SC.pv];exact fin1 hI (c:=.c (.i k (k.wrap m))) rfl trivial h
 ·cases h
theorem p_mn (hI:Inv P τ) {et:Option Ty} {x y:Ix} (h:teff τ b et (.mn x y) K=some r):Prm P n τ b (.mn x y) K r:=by
 simp only [teff] at h;split at h
 ·rename_i k m k' m' hx hy;obtain ⟨e1,_⟩:=ev1_ok (n:=n) hI hx (by simp);obtain ⟨e2,_⟩:=ev1_ok (n:=n) hI hy (by simp);simp only [Prm,effK,e1,e2,TC.pv,SC.pv];exact fin1 hI (c:=.c (.i k (if m'<m then m' else m))) rfl trivial h
 ·cases h
theorem p_mx (hI:Inv P τ) {et:Option Ty} {x y:Ix} (h:teff τ b et (.mx x y) K=some r):Prm P n τ b (.mx x y) K r:=by
 simp only [teff] at h;split at h
 ·rename_i k m k' m' hx hy;obtain ⟨e1,_⟩:=ev1_ok (n:=n) hI hx (by simp);obtain ⟨e2,_⟩:=ev1_ok (n:=n) hI hy (by simp);simp only [Prm,effK,e1,e2,TC.pv,SC.pv];exact fin1 hI (c:=.c (.i k (if m'>m then m' else m))) rfl trivial h
 ·cases h
theorem p_nchk (hI:Inv P τ) {et:Option Ty} {x:Ix} (h:teff τ b et (.nchk x) K=some r):Prm P n τ b (.nchk x) K r:=by
 simp only [teff] at h;split at h<;>first
  | (
    rename_i hx;obtain ⟨e1,k1⟩:=ev1_ok (n:=n) hI hx (by simp);simp only [Prm,effK,e1,TC.pv];exact fin1 hI (c:=_) rfl k1 h)
  | cases h
theorem p_fa (hI:Inv P τ) {et:Option Ty} {off:Nat} {x:Ix} (h:teff τ b et (.fa off x) K=some r):Prm P n τ b (.fa off x) K r:=by
 simp only [teff] at h;split at h
 ·rename_i id j hx;obtain ⟨e1,k1⟩:=ev1_ok (n:=n) hI hx (by simp);simp only [Prm,effK,e1,TC.pv];exact fin1 hI (c:=.vp id (j+off)) rfl trivial h
 ·rename_i id v m e j hx;obtain ⟨e1,k1⟩:=ev1_ok (n:=n) hI hx (by simp);simp only [Prm,effK,e1,TC.pv];exact fin1 hI (c:=.hp id v m e (j+off)) rfl k1 h
 ·rename_i l j hx;obtain ⟨e1,k1⟩:=ev1_ok (n:=n) hI hx (by simp);simp only [Prm,effK,e1,TC.pv];exact fin1 hI (c:=.rp l (j+off)) rfl trivial h
 ·cases h
theorem p_len (hI:Inv P τ) {et:Option Ty} {x:Ix} (h:teff τ b et (.len x) K=some r):Prm P n τ b (.len x) K r:=by
 simp only [teff] at h;split at h
 ·rename_i id v m hx;obtain ⟨e1,k1⟩:=ev1_ok (n:=n) hI hx (by simp);simp only [Prm,effK,e1,TC.pv];exact fin1 hI (c:=.c (.i .i64 m)) rfl trivial h
 ·rename_i id v lo m m' hx;obtain ⟨e1,k1⟩:=ev1_ok (n:=n) hI hx (by simp);simp only [Prm,effK,e1,TC.pv];exact fin1 hI (c:=.c (.i .i64 m)) rfl trivial h
 ·rename_i o t l hx;obtain ⟨e1,k1⟩:=ev1_ok (n:=n) hI hx (by simp);simp only [Prm,effK,e1,TC.pv,SC.pv];refine fin1 hI (c:=.c (.i .i64 l.length)) ?_ trivial h;simp [TC.pv,SC.pv]
 ·rename_i o k hx;obtain ⟨e1,k1⟩:=ev1_ok (n:=n) hI hx (by simp);simp only [Prm,effK,e1,TC.pv,SC.pv];exact fin1 hI (c:=.c (.i .i64 0)) rfl trivial h
 ·cases h
theorem p_ext (hI:Inv P τ) {et:Option Ty} {i:Nat} {x:Ix} (h:teff τ b et (.ext i x) K=some r):Prm P n τ b (.ext i x) K r:=by
 simp only [teff] at h;split at h
 ·rename_i l hx;split at h
  ·rename_i y hy;obtain ⟨e,k⟩:=evO_ok (n:=n) hI (ev_evO (x:=x) (by rw [hx];simp));rw [hx] at e k;simp only [Prm,effK,e,TV.rv];refine ⟨y.r1,by simp [hy],fin hI (v:=.r y) rfl (fun c hc=>k c ?_) h⟩;simp only [TV.cs,List.mem_flatMap];exact ⟨y,List.mem_of_getElem? hy,hc⟩
  ·cases h
 ·cases h
theorem capT_ok:∀ {l:List TC} {m:List (List SC×Option Nat)},capT l=some m→l.map TC.pv=m.map capPV∧∀ c∈l,c≠.un
 | [],m,h=>by injection h with h;subst h;simp
 | c::l,m,h=>by
  unfold capT at h;split at h
  ·rename_i hh;cases hh
  ·rename_i x r hh;injection hh with h1 h2;subst h1 h2;split at h
   ·rename_i m' hm;injection h with h;subst h;obtain ⟨e,k⟩:=capT_ok hm;refine ⟨by simp [e,TC.pv,capPV],fun c hc => ?_⟩;rcases List.mem_cons.1 hc with rfl|hc
    ·simp
    ·exact k c hc
   ·cases h
  ·rename_i x j r hh;injection hh with h1 h2;subst h1 h2;split at h
   ·rename_i m' hm;injection h with h;subst h;obtain ⟨e,k⟩:=capT_ok hm;refine ⟨by simp [e,TC.pv,capPV],fun c hc => ?_⟩;rcases List.mem_cons.1 hc with rfl|hc
    ·simp
    ·exact k c hc
   ·cases h
  ·cases h
theorem capQ_ok:∀ {l:List TC} {m:List CapT},capQ l=some m→l.map TC.pv=m.map CapT.pv∧∀ c∈l,c≠.un
 | [],m,h=>by injection h with h;subst h;simp
 | c::l,m,h=>by
  unfold capQ at h;split at h
  ·rename_i hh;cases hh
  ·rename_i x r hh;injection hh with h1 h2;subst h1 h2;split at h
   ·rename_i m' hm;injection h with h;subst h;obtain ⟨e,k⟩:=capQ_ok hm;refine ⟨by simp [e,TC.pv,CapT.pv,capPV],fun c hc => ?_⟩;rcases List.mem_cons.1 hc with rfl|hc
    ·simp
    ·exact k c hc
   ·cases h
  ·rename_i x j r hh;injection hh with h1 h2;subst h1 h2;split at h
   ·rename_i m' hm;injection h with h;subst h;obtain ⟨e,k⟩:=capQ_ok hm;refine ⟨by simp [e,TC.pv,CapT.pv,capPV],fun c hc => ?_⟩;rcases List.mem_cons.1 hc with rfl|hc
    ·simp
    ·exact k c hc
   ·cases h
  ·rename_i id j r hh;injection hh with h1 h2;subst h1 h2;split at h
   ·rename_i m' hm;injection h with h;subst h;obtain ⟨e,k⟩:=capQ_ok hm;refine ⟨by simp [e,TC.pv,CapT.pv],fun c hc => ?_⟩;rcases List.mem_cons.1 hc with rfl|hc
    ·simp
    ·exact k c hc
   ·cases h
  ·cases h
theorem evs_map (hI:Inv P τ):∀ {l:List Ix},(∀ x∈l,τ.ev1 x≠.un)→evs (img n τ) l=(l.map τ.ev1).map TC.pv
 | [],_=>rfl
 | x::l,h=>by
  obtain ⟨e,_⟩:=ev1_ok (n:=n) hI (x:=x) rfl (h x (by simp));simp only [evs,e,List.map_cons,evs_map hI (l:=l) fun y hy=>h y (by simp [hy])]
theorem p_mkf (hI:Inv P τ) {et:Option Ty} {f:FuncId} {l:List Ix} (h:teff τ b et (.mkf f l) K=some r):Prm P n τ b (.mkf f l) K r:=by
 simp only [teff] at h;split at h
 ·rename_i m hm;obtain ⟨e,k⟩:=capT_ok hm;have e2:=evs_map (n:=n) hI (l:=l) fun x hx=>k _ (List.mem_map.2 ⟨x,hx,rfl⟩)
  simp only [Prm,effK,e2,e];refine ⟨fun p hp e' => ?_,fin1 hI (c:=.fn f m) rfl trivial h⟩;subst e';obtain ⟨c,_,hc⟩:=List.mem_map.1 hp;obtain ⟨l,j⟩:=c;cases j with
  | some j=>cases hc
  | none =>
   cases l with
   | nil=>cases hc
   | cons x l =>
    have hc:x.pv=.un:=hc;cases x<;>cases hc
 ·split at h
  ·rename_i m hm;obtain ⟨e,k⟩:=capQ_ok hm;have e2:=evs_map (n:=n) hI (l:=l) fun x hx=>k _ (List.mem_map.2 ⟨x,hx,rfl⟩)
   simp only [Prm,effK,e2];refine ⟨fun p hp e' => ?_,fin1 hI (c:=.fq f m) (by simp only [TC.pv,e]) trivial h⟩;subst e';obtain ⟨c,hc,hcp⟩:=List.mem_map.1 hp;exact k c hc (pv_un hcp)
  ·cases h
end
def wsl (e:Nat×TB):Nat×Slot:=(e.1,e.2.slot)
theorem tthaw_ok (g:Nat):∀ (b:Nat) (cs:List TC),thaw b (cs.map TC.pv)=((tthaw g b cs).1.map TC.pv,(tthaw g b cs).2.map wsl)
 | b,[]=>rfl
 | b,c::r=>by
  have i1:=tthaw_ok g b r;have i2:=tthaw_ok g (b+1) r;cases c with
  | c x =>
   cases x with
   | sl o t l =>
    cases o
    ·simp only [List.map_cons,TC.pv,SC.pv,thaw,tthaw,i1]
    ·simp only [List.map_cons,TC.pv,SC.pv,thaw,tthaw,i2,List.length_map,wsl,TB.slot]
   | nl o k =>
    cases o
    ·simp only [List.map_cons,TC.pv,SC.pv,thaw,tthaw,i1]
    ·simp only [List.map_cons,TC.pv,SC.pv,thaw,tthaw,i2,List.length_nil,wsl,TB.slot]
   | _=>simp only [List.map_cons,TC.pv,SC.pv,thaw,tthaw,i1]
  | _=>simp only [List.map_cons,TC.pv,thaw,tthaw,i1]
theorem tthaw_ids (g b:Nat) (cs:List TC):(tthaw g b cs).2.map (·.1)=List.range' b (tthaw g b cs).2.length:=by
 have h:=thaw_ids b (cs.map TC.pv);rw [tthaw_ok g] at h;simpa [List.map_map,Function.comp_def,wsl] using h
theorem tthaw_blk {g:Nat}:∀ {b:Nat} {cs:List TC} {e:Nat×TB},e∈(tthaw g b cs).2→b≤e.1∧((∃ t l,e.2=.sl t g l)∨∃ k,e.2=.nb g k)
 | b,[],e,h=>by simp [tthaw] at h
 | b,c::r,e,h=>by
  have i1:e∈(tthaw g b r).2→_:=tthaw_blk (cs:=r);have i2:e∈(tthaw g (b+1) r).2→_:=tthaw_blk (cs:=r);have i2':e∈(tthaw g (b+1) r).2→b≤e.1∧((∃ t l,e.2=.sl t g l)∨∃ k,e.2=.nb g k):=fun k=>⟨by have:=(i2 k).1;omega,(i2 k).2⟩
  unfold tthaw at h;split at h
  ·rcases List.mem_cons.1 h with rfl|h
   ·exact ⟨Nat.le_refl _,.inl ⟨_,_,rfl⟩⟩
   ·exact i2' h
  ·rcases List.mem_cons.1 h with rfl|h
   ·exact ⟨Nat.le_refl _,.inr ⟨_,rfl⟩⟩
   ·exact i2' h
  ·exact i1 h
theorem tthaw_cell {g:Nat}:∀ {b:Nat} {cs:List TC} {c:TC},c∈(tthaw g b cs).1→c∈cs∨∃ id tb m,c=.ref id g m∧(id,tb)∈(tthaw g b cs).2∧∀ v m',vlen tb=some (v,m')→m=m'
 | b,[],c,h=>by simp [tthaw] at h
 | b,c0::r,c,h=>by
  have i1:c∈(tthaw g b r).1→_:=tthaw_cell (cs:=r);have i2:c∈(tthaw g (b+1) r).1→_:=tthaw_cell (cs:=r);unfold tthaw at h ⊢;split at h
  ·rcases List.mem_cons.1 h with rfl|h
   ·exact .inr ⟨_,_,_,rfl,List.mem_cons_self,by simp [vlen]⟩
   ·rcases i2 h with k|⟨id,tb,m,k1,k2,k3⟩
    ·exact .inl (by simp [k])
    ·exact .inr ⟨id,tb,m,k1,by simp [k2],k3⟩
  ·rcases List.mem_cons.1 h with rfl|h
   ·exact .inr ⟨_,_,_,rfl,List.mem_cons_self,by simp [vlen]⟩
   ·rcases i2 h with k|⟨id,tb,m,k1,k2,k3⟩
    ·exact .inl (by simp [k])
    ·exact .inr ⟨id,tb,m,k1,by simp [k2],k3⟩
  ·rename_i h1 h2;rcases List.mem_cons.1 h with rfl|h
   ·exact .inl (by simp)
   ·rcases i1 h with k|⟨id,tb,m,k1,k2,k3⟩
    ·exact .inl (by simp [k])
    ·exact .inr ⟨id,tb,m,k1,k2,k3⟩
theorem tthaw_len (g b:Nat) (cs:List TC):(tthaw g b cs).1.length=cs.length:=by
 have h:∀ (cs:List TC) (b:Nat),(tthaw g b cs).1.length=cs.length:=by
  intro cs;induction cs with
  | nil=>intro b;rfl
  | cons c r ih=>intro b;unfold tthaw;split<;>simp [ih]
 exact h cs b
section
variable {P:Program} {τ:TSt} {n b:Nat} {E:TE} {R:Type} {K:TE→Option R} {r:R}
theorem thaw_okE (hI:Inv P τ) {id b':Nat} (hid:id<b') (hb:τ.h.length≤b') {tb':TB} {cs:List TC} (hcs:∀ c∈cs,cok P τ.h τ.g c) {v:TV} {rd:List Nat}
  (h1:∀ v m,v<τ.g→vlen tb'=some (v,m)→vlen (tbAt τ.h id)=some (v,m)) (h2:∀ v m q,v<τ.g→hinf tb'=some (v,m,q)→hinf (tbAt τ.h id)=some (v,m,q))
  (hbk:∀ h',HLe τ.h τ.g h' (τ.g+1)→(∀ c∈(tthaw τ.g b' cs).1,cok P h' (τ.g+1) c)→bok P h' (τ.g+1) tb')
  (hv:∀ h',HLe τ.h τ.g h' (τ.g+1)→(∀ c∈(tthaw τ.g b' cs).1,cok P h' (τ.g+1) c)→tbAt h' id=tb'→∀ c∈v.cs,cok P h' (τ.g+1) c) :
  OkE P τ { v:=v,wh:=(id,tb')::(tthaw τ.g b' cs).2,rd:=rd,g:=τ.g+1 }:=by
 have hnd:(((id,tb')::(tthaw τ.g b' cs).2).map (·.1)).Nodup:=by
  rw [List.map_cons,tthaw_ids,List.nodup_cons];refine ⟨fun hm => ?_,List.nodup_range'⟩;rw [List.mem_range'_1] at hm;omega
 have hcells:HLe τ.h τ.g (setTs τ.h ((id,tb')::(tthaw τ.g b' cs).2)) (τ.g+1)→∀ c∈(tthaw τ.g b' cs).1,cok P (setTs τ.h ((id,tb')::(tthaw τ.g b' cs).2)) (τ.g+1) c:=by
  intro le c hc;rcases tthaw_cell hc with k|⟨i,tb,m,rfl,k2,k3⟩
  ·exact le.cok (hcs c k)
  ·refine ⟨Nat.lt_succ_self _,fun m' e => ?_⟩;rw [setTs_get (x:=tb) hnd (by simp [k2])] at e;exact k3 _ _ e
 refine OkE.wr hI (Nat.le_succ _) (fun e he => ?_) (fun le e he => ?_) (fun le c hc=>hv _ le (hcells le) (setTs_get hnd (by simp)) c hc)
 ·rcases List.mem_cons.1 he with rfl|he
  ·exact ⟨h1,h2⟩
  ·obtain ⟨_,⟨t,l,e1⟩|⟨k,e1⟩⟩:=tthaw_blk he
   ·rw [e1];exact ⟨fun v m hv e=>by simp [vlen] at e;omega,fun v m q hv e=>by simp [hinf] at e⟩
   ·rw [e1];exact ⟨fun v m hv e=>by simp [vlen] at e;omega,fun v m q hv e=>by simp [hinf] at e⟩
 ·rcases List.mem_cons.1 he with rfl|he
  ·exact hbk _ le (hcells le)
  ·obtain ⟨_,⟨t,l,e1⟩|⟨k,e1⟩⟩:=tthaw_blk he
   ·rw [e1];exact Nat.lt_succ_self _
   ·rw [e1];exact Nat.lt_succ_self _
theorem hole_get {t:Ty} {pre post:List (Den t)} {p:List PV}:(pre.map (enc t)++p::post.map (enc t))[pre.length]? = some p:=by
 rw [List.getElem?_append_right (by simp)];simp
theorem hole_set {t:Ty} {pre post:List (Den t)} {p q:List PV}:(pre.map (enc t)++p::post.map (enc t)).set pre.length q=pre.map (enc t)++q::post.map (enc t):=by
 rw [List.set_append_right _ _ (by simp)];simp
theorem hole_len {t:Ty} {pre post:List (Den t)} {p:List PV}:(pre.map (enc t)++p::post.map (enc t)).length=pre.length+1+post.length:=by
 simp;omega
theorem lt_of_tb {id:Nat} {x:TB} (h:tbAt τ.h id=x) (hx:x≠.fresh):id<τ.h.length:=tbAt_lt (by rw [h];exact hx)
theorem set_splice {α:Type} {l:List α} {j:Nat} {x:α} (h:j<l.length):l.set j x=splice l j [x]:=by
 rw [List.set_eq_take_append_cons_drop,if_pos h];simp [splice]
theorem TC.pv_vs {c:TC} {k:Nat} {l:List (List PV)} (h:c.pv=.vs true k l):(∃ t m,c=.c (.sl true t m)∧k=t.sz∧l=m.map (enc t))∨(c=.c (.nl true k)∧l=[]):=by
 cases c with
 | c x =>
  cases x with
  | sl o t m=>injection h with h1 h2 h3;subst h1 h2 h3;exact .inl ⟨t,m,rfl,rfl,rfl⟩
  | nl o k=>injection h with h1 h2 h3;subst h1 h2 h3;exact .inr ⟨rfl,rfl⟩
  | _=>cases h
 | _=>cases h
theorem p_ld1 (hI:Inv P τ) (hb:τ.h.length≤b) {et:Option Ty} {x:Ix} (h:teff τ b et (.ld1 x) K=some r):Prm P n τ b (.ld1 x) K r:=by
 simp only [teff] at h;split at h
 ·rename_i id j hx;obtain ⟨e1,k1⟩:=ev1_ok (n:=n) hI hx (by simp);split at h
  ·rename_i w cs hB;have hlt:=lt_of_tb hB (by simp);have hbk:=hI.blks id;rw [hB] at hbk;have hbk:∀ c∈cs,cok P τ.h τ.g c:=hbk;have hs:(img n τ).slot id=.live ⟨if w then 2 else 1,cs.length,[],[cs.map TC.pv]⟩:=by rw [img_slot,hB];rfl
   simp only [Prm,effK,e1,TC.pv,St.blk,hs];refine ⟨rfl,?_⟩;split at h
   ·rename_i t l hc;refine ⟨cs.map TC.pv,.vs true t.sz (l.map (enc t)),rfl,by simp [hc,TC.pv,SC.pv],img_fresh b hb,_,?_,thaw_okE hI (id:=id) (b':=b) (tb':=.var w (cs.set j (.ref b τ.g l.length))) (cs:=[.c (.sl true t l)]) (v:=.r (.one (.ref b τ.g l.length))) (by omega) hb (fun c hc=>by simp at hc;subst hc;trivial) (fun _ _ _ e=>(var_vlen e).elim) (fun _ _ _ _ e=>(var_hinf e).elim) (fun h' le hcc c hc => ?_) (fun h' le hcc _ c hc=>hcc c ?_),h⟩
    ·simp [TE.img,TV.rv,TR.r1,TC.pv,TB.slot,tthaw]
    ·rcases List.mem_or_eq_of_mem_set hc with hc|rfl
     ·exact le.cok (hbk c hc)
     ·exact hcc _ (by simp [tthaw])
    ·simpa [tthaw,TV.cs,TR.cs] using hc
   ·rename_i k hc;refine ⟨cs.map TC.pv,.vs true k [],rfl,by simp [hc,TC.pv,SC.pv],img_fresh b hb,_,?_,thaw_okE hI (id:=id) (b':=b) (tb':=.var w (cs.set j (.ref b τ.g 0))) (cs:=[.c (.nl true k)]) (v:=.r (.one (.ref b τ.g 0))) (by omega) hb (fun c hc=>by simp at hc;subst hc;trivial) (fun _ _ _ e=>(var_vlen e).elim) (fun _ _ _ _ e=>(var_hinf e).elim) (fun h' le hcc c hc => ?_) (fun h' le hcc _ c hc=>hcc c ?_),h⟩
    ·simp [TE.img,TV.rv,TR.r1,TC.pv,TB.slot,tthaw]
    ·rcases List.mem_or_eq_of_mem_set hc with hc|rfl
     ·exact le.cok (hbk c hc)
     ·exact hcc _ (by simp [tthaw])
    ·simpa [tthaw,TV.cs,TR.cs] using hc
   ·rename_i c hn1 hn2 hc;refine ⟨cs.map TC.pv,c.pv,rfl,by simp [hc],?_⟩;split
    ·rename_i k l hp;rcases TC.pv_vs hp with ⟨t,m,rfl,_⟩|⟨rfl,_⟩
     ·exact (hn1 _ _ rfl).elim
     ·exact (hn2 _ rfl).elim
    ·exact fin1 hI (c:=c) rfl (hbk c (List.mem_of_getElem? hc)) h
   ·cases h
  ·cases h
 ·rename_i id v m e j hx;obtain ⟨e1,k1⟩:=ev1_ok (n:=n) hI hx (by simp);split at h
  ·rename_i t v0 hv y pre row post memo hB;have hlt:=lt_of_tb hB (by simp);have hbk:=hI.blks id;rw [hB] at hbk;obtain ⟨q1,q2,q3,q4,q5,q6⟩:=hbk;have hs:(img n τ).slot id=.live ⟨0,t.sz,[],pre.map (enc t)++row.map TC.pv::post.map (enc t)⟩:=by rw [img_slot,hB];rfl
   split at h
   ·rename_i hvv;obtain rfl:=nbe hvv;obtain ⟨rfl,rfl⟩:m=pre.length+1+post.length∧e=pre.length:=k1.2 _ _ (by rw [hB];rfl);simp only [Prm,effK,e1,TC.pv,St.blk,hs];refine ⟨hole_len,?_⟩;have hrow:∀ (c:TC) (u:List TC),bok P τ.h τ.g (.hole t v0 v y pre row post memo)→True:=fun _ _ _=>trivial
    split at h
    ·rename_i u l hc;refine ⟨row.map TC.pv,.vs true u.sz (l.map (enc u)),hole_get,by simp [hc,TC.pv,SC.pv],img_fresh b hb,_,?_,thaw_okE hI (id:=id) (b':=b) (tb':=.hole t v0 v y pre (row.set j (.ref b τ.g l.length)) post none) (cs:=[.c (.sl true u l)]) (v:=.r (.one (.ref b τ.g l.length))) (by omega) hb (fun c hc=>by simp at hc;subst hc;trivial) (fun v m hv e=>by rw [hB];exact e) (fun v m q hv e=>by rw [hB];exact e) (fun h' le hcc => ?_) (fun h' le hcc _ c hc=>hcc c ?_),h⟩
     ·simp [TE.img,TV.rv,TR.r1,TC.pv,TB.slot,tthaw,hole_set]
     ·refine ⟨by omega,by omega,fun c hc => ?_,by simpa using q4,q5,by simp⟩;rcases List.mem_or_eq_of_mem_set hc with hc|rfl
      ·exact le.cok (q3 c hc)
      ·exact hcc _ (by simp [tthaw])
     ·simpa [tthaw,TV.cs,TR.cs] using hc
    ·rename_i k hc;refine ⟨row.map TC.pv,.vs true k [],hole_get,by simp [hc,TC.pv,SC.pv],img_fresh b hb,_,?_,thaw_okE hI (id:=id) (b':=b) (tb':=.hole t v0 v y pre (row.set j (.ref b τ.g 0)) post none) (cs:=[.c (.nl true k)]) (v:=.r (.one (.ref b τ.g 0))) (by omega) hb (fun c hc=>by simp at hc;subst hc;trivial) (fun v m hv e=>by rw [hB];exact e) (fun v m q hv e=>by rw [hB];exact e) (fun h' le hcc => ?_) (fun h' le hcc _ c hc=>hcc c ?_),h⟩
     ·simp [TE.img,TV.rv,TR.r1,TC.pv,TB.slot,tthaw,hole_set]
     ·refine ⟨by omega,by omega,fun c hc => ?_,by simpa using q4,q5,by simp⟩;rcases List.mem_or_eq_of_mem_set hc with hc|rfl
      ·exact le.cok (q3 c hc)
      ·exact hcc _ (by simp [tthaw])
     ·simpa [tthaw,TV.cs,TR.cs] using hc
    ·rename_i c hn1 hn2 hc;refine ⟨row.map TC.pv,c.pv,hole_get,by simp [hc],?_⟩;split
     ·rename_i k l hp;rcases TC.pv_vs hp with ⟨t,m,rfl,_⟩|⟨rfl,_⟩
      ·exact (hn1 _ _ rfl).elim
      ·exact (hn2 _ rfl).elim
     ·exact fin1 hI (c:=c) rfl (q3 c (List.mem_of_getElem? hc)) h
    ·cases h
   ·cases h
  ·cases h
 ·rename_i l j hx;obtain ⟨e1,k1⟩:=ev1_ok (n:=n) hI hx (by simp);split at h
  ·rename_i x hx;simp only [Prm,effK,e1,TC.pv];exact ⟨x.pv,by simp [hx],fin1 hI (c:=.c x.sh) (by simp [TC.pv,SC.sh_pv]) trivial h⟩
  ·cases h
 ·rename_i l hx;obtain ⟨e1,k1⟩:=ev1_ok (n:=n) hI hx (by simp);simp only [Prm,effK,e1,TC.pv];exact ⟨.rp (l.map SC.pv) 0,rfl,fin1 hI (c:=.rp l 0) rfl trivial h⟩
 ·cases h
end
section
variable {P:Program} {τ:TSt} {n b:Nat} {E:TE} {R:Type} {K:TE→Option R} {r:R}
theorem cok_take {h:List TB} {g:Nat} {cs:List TC} {j n:Nat} (k:∀ c∈cs,cok P h g c):∀ c∈(cs.drop j).take n,cok P h g c :=
 fun c hc=>k c (List.mem_of_mem_drop (List.mem_of_mem_take hc))
theorem p_ld (hI:Inv P τ) (hb:τ.h.length≤b) {et:Option Ty} {m:Nat} {x:Ix} (h:teff τ b et (.ld m x) K=some r):Prm P n τ b (.ld m x) K r:=by
 simp only [teff] at h;split at h
 ·rename_i id j hx;obtain ⟨e1,k1⟩:=ev1_ok (n:=n) hI hx (by simp);split at h
  ·rename_i w cs hB;have hlt:=lt_of_tb hB (by simp);have hbk:=hI.blks id;rw [hB] at hbk;have hbk:∀ c∈cs,cok P τ.h τ.g c:=hbk;have hs:(img n τ).slot id=.live ⟨if w then 2 else 1,cs.length,[],[cs.map TC.pv]⟩:=by rw [img_slot,hB];rfl
   split at h
   ·rename_i hle;have hle:=Nat.le_of_ble_eq_true hle;have hth:=tthaw_ok τ.g b ((cs.drop j).take m);rw [List.map_take,List.map_drop] at hth;simp only [Prm,effK,e1,TC.pv,St.blk,hs];refine ⟨rfl,cs.map TC.pv,rfl,by simpa using hle,?_⟩;rw [hth];split at h
    ·rename_i l hl;rw [hl];refine fin hI (v:=.r (.agg ((cs.drop j).take m))) ?_ (fun c hc=>cok_take hbk c hc) h;simp [TV.rv,TR.r1,List.map_take,List.map_drop]
    ·rename_i l ws hne hl;have hl1:(tthaw τ.g b ((cs.drop j).take m)).1=l:=by rw [hl]
     have hl2:(tthaw τ.g b ((cs.drop j).take m)).2=ws:=by rw [hl]
     rw [hl];have hne':ws≠[]:=fun e=>hne e
     split
     ·rename_i e;injection e with e1 e2;exact (hne' (by simpa using e2)).elim
     ·rename_i l' ws' _ e;injection e with e1 e2;subst e1 e2;refine ⟨fun y hy => ?_,_,?_,?_,h⟩
      ·obtain ⟨z,hz,rfl⟩:=List.mem_map.1 hy;have:=(tthaw_blk (show z∈(tthaw τ.g b ((cs.drop j).take m)).2 by rw [hl2];exact hz)).1;exact img_fresh _ (by simp only [wsl];omega)
      ·simp [TE.img,TV.rv,TR.r1,TB.slot,splice_map,wsl,Function.comp_def,splice_len,splice];have hll:l.length=min m (cs.length-j):=by rw [← hl1,tthaw_len];simp
       omega
      ·rw [← hl2];refine thaw_okE hI (id:=id) (b':=b) (tb':=.var w (splice cs j l)) (cs:=(cs.drop j).take m) (v:=.r (.agg l)) (by omega) hb (cok_take hbk) (fun _ _ _ e=>(var_vlen e).elim) (fun _ _ _ _ e=>(var_hinf e).elim) (fun h' le hcc c hc => ?_) (fun h' le hcc _ c hc=>hcc c ?_)
       ·rcases mem_splice hc with hc|hc
        ·exact le.cok (hbk c hc)
        ·exact hcc _ (by rw [hl1];exact hc)
       ·rw [hl1];exact hc
   ·cases h
  ·cases h
 ·rename_i id v m' e j hx;obtain ⟨e1,k1⟩:=ev1_ok (n:=n) hI hx (by simp);split at h
  ·rename_i t v0 hv y pre row post memo hB;have hlt:=lt_of_tb hB (by simp);have hbk:=hI.blks id;rw [hB] at hbk;obtain ⟨q1,q2,q3,q4,q5,q6⟩:=hbk;have hs:(img n τ).slot id=.live ⟨0,t.sz,[],pre.map (enc t)++row.map TC.pv::post.map (enc t)⟩:=by rw [img_slot,hB];rfl
   split at h
   ·rename_i hvv hle;have hle:=Nat.le_of_ble_eq_true hle;obtain rfl:=nbe hvv;obtain ⟨rfl,rfl⟩:m'=pre.length+1+post.length∧e=pre.length:=k1.2 _ _ (by rw [hB];rfl);have hth:=tthaw_ok τ.g b ((row.drop j).take m);rw [List.map_take,List.map_drop] at hth;simp only [Prm,effK,e1,TC.pv,St.blk,hs];refine ⟨hole_len,row.map TC.pv,hole_get,by simpa using hle,?_⟩;rw [hth];split at h
    ·rename_i l hl;rw [hl];refine fin hI (v:=.r (.agg ((row.drop j).take m))) ?_ (fun c hc=>cok_take q3 c hc) h;simp [TV.rv,TR.r1,List.map_take,List.map_drop]
    ·rename_i l ws hne hl;have hl1:(tthaw τ.g b ((row.drop j).take m)).1=l:=by rw [hl]
     have hl2:(tthaw τ.g b ((row.drop j).take m)).2=ws:=by rw [hl]
     have hll:l.length=min m (row.length-j):=by rw [← hl1,tthaw_len];simp
     rw [hl];have hne':ws≠[]:=fun e=>hne e
     split
     ·rename_i e;injection e with e1 e2;exact (hne' (by simpa using e2)).elim
     ·rename_i l' ws' _ e;injection e with e1 e2;subst e1 e2;refine ⟨fun y hy => ?_,_,?_,?_,h⟩
      ·obtain ⟨z,hz,rfl⟩:=List.mem_map.1 hy;have:=(tthaw_blk (show z∈(tthaw τ.g b ((row.drop j).take m)).2 by rw [hl2];exact hz)).1;exact img_fresh _ (by simp only [wsl];omega)
      ·simp [TE.img,TV.rv,TR.r1,TB.slot,splice_map,wsl,Function.comp_def,hole_set]
      ·rw [← hl2];refine thaw_okE hI (id:=id) (b':=b) (tb':=.hole t v0 v y pre (splice row j l) post none) (cs:=(row.drop j).take m) (v:=.r (.agg l)) (by omega) hb (cok_take q3) (fun v m hv e=>by rw [hB];exact e) (fun v m q hv e=>by rw [hB];exact e) (fun h' le hcc => ?_) (fun h' le hcc _ c hc=>hcc c ?_)
       ·refine ⟨by omega,by omega,fun c hc => ?_,by rw [splice_len (by omega)];exact q4,q5,by simp⟩;rcases mem_splice hc with hc|hc
        ·exact le.cok (q3 c hc)
        ·exact hcc _ (by rw [hl1];exact hc)
       ·rw [hl1];exact hc
   ·cases h
  ·cases h
 ·rename_i l j hx;obtain ⟨e1,k1⟩:=ev1_ok (n:=n) hI hx (by simp);split at h
  ·rename_i hle;have hle:=Nat.le_of_ble_eq_true hle;simp only [Prm,effK,e1,TC.pv];refine ⟨by simpa using hle,fin hI (v:=.r (.agg (((l.drop j).take m).map fun x=>.c x.sh))) ?_ (fun c hc => ?_) h⟩
   ·simp [TV.rv,TR.r1,TC.pv,SC.sh_pv,Function.comp_def,List.map_take,List.map_drop]
   ·simp only [TV.cs,TR.cs,List.mem_map] at hc;obtain ⟨z,_,rfl⟩:=hc;trivial
  ·cases h
 ·cases h
theorem p_st (hI:Inv P τ) {et:Option Ty} {m:Nat} {x y:Ix} (h:teff τ b et (.st m x y) K=some r):Prm P n τ b (.st m x y) K r:=by
 simp only [teff] at h;split at h
 ·rename_i id j ys hx hy;obtain ⟨e1,k1⟩:=ev1_ok (n:=n) hI hx (by simp);obtain ⟨e2,k2⟩:=cells_ok (n:=n) hI hy;split at h
  ·rename_i w cs hB;have hlt:=lt_of_tb hB (by simp);have hbk:=hI.blks id;rw [hB] at hbk;have hbk:∀ c∈cs,cok P τ.h τ.g c:=hbk;have hs:(img n τ).slot id=.live ⟨if w then 2 else 1,cs.length,[],[cs.map TC.pv]⟩:=by rw [img_slot,hB];rfl
   split at h
   ·rename_i hn hle;have hn:=nbe hn;have hle:=Nat.le_of_ble_eq_true hle;simp only [Prm,effK,e1,TC.pv,St.blk,hs];refine ⟨rfl,cs.map TC.pv,ys.map TC.pv,rfl,e2,by simpa using hn,by simpa using hle,_,?_,OkE.wr (v:=.un) (wh:=[(id,.var w (splice cs j ys))]) hI (Nat.le_refl _) (fun e he => ?_) (fun le e he => ?_) (fun _ c hc=>by simp [TV.cs] at hc),h⟩
    ·simp [TE.img,TV.rv,TB.slot,splice_map,splice_len];rw [splice_len (by omega)]
    ·obtain rfl:e=(id,.var w (splice cs j ys)):=by simpa using he
     exact ⟨fun v m _ e=>(var_vlen e).elim,fun v m q _ e=>(var_hinf e).elim⟩
    ·obtain rfl:e=(id,.var w (splice cs j ys)):=by simpa using he
     intro c hc;rcases mem_splice hc with hc|hc
     ·exact le.cok (hbk c hc)
     ·exact le.cok (k2 c hc)
   ·cases h
  ·cases h
 ·rename_i id v m' e j ys hx hy;obtain ⟨e1,k1⟩:=ev1_ok (n:=n) hI hx (by simp);obtain ⟨e2,k2⟩:=cells_ok (n:=n) hI hy;split at h
  ·rename_i t v0 hv y pre row post memo hB;have hbk:=hI.blks id;rw [hB] at hbk;obtain ⟨q1,q2,q3,q4,q5,q6⟩:=hbk;have hs:(img n τ).slot id=.live ⟨0,t.sz,[],pre.map (enc t)++row.map TC.pv::post.map (enc t)⟩:=by rw [img_slot,hB];rfl
   split at h
   ·rename_i hvv hn hle;have hn:=nbe hn;have hle:=Nat.le_of_ble_eq_true hle;obtain rfl:=nbe hvv;obtain ⟨rfl,rfl⟩:m'=pre.length+1+post.length∧e=pre.length:=k1.2 _ _ (by rw [hB];rfl);simp only [Prm,effK,e1,TC.pv,St.blk,hs];refine ⟨hole_len,row.map TC.pv,ys.map TC.pv,hole_get,e2,by simpa using hn,by simpa using hle,_,?_,OkE.wr (v:=.un) (wh:=[(id,.hole t v0 v y pre (splice row j ys) post none)]) hI (Nat.le_refl _) (fun e he => ?_) (fun le e he => ?_) (fun _ c hc=>by simp [TV.cs] at hc),h⟩
    ·simp [TE.img,TV.rv,TB.slot,splice_map,hole_set]
    ·obtain rfl:e=(id,.hole t v0 v y pre (splice row j ys) post none):=by simpa using he
     exact ⟨fun v m _ e=>by rw [hB];exact e,fun v m q _ e=>by rw [hB];exact e⟩
    ·obtain rfl:e=(id,.hole t v0 v y pre (splice row j ys) post none):=by simpa using he
     refine ⟨q1,q2,fun c hc => ?_,by rw [splice_len (by omega)];exact q4,q5,by simp⟩;rcases mem_splice hc with hc|hc
     ·exact le.cok (q3 c hc)
     ·exact le.cok (k2 c hc)
   ·cases h
  ·cases h
 ·cases h
theorem toSC_ok:∀ {l:List TC} {m:List SC},toSC l=some m→l.map TC.pv=m.map SC.pv
 | [],m,h=>by injection h with h;subst h;rfl
 | c::l,m,h=>by
  unfold toSC at h;split at h
  ·rename_i e;cases e
  ·rename_i x r e;injection e with e1 e2;subst e1 e2;split at h
   ·rename_i m' hm;injection h with h;subst h;simp [toSC_ok hm,TC.pv]
   ·cases h
  ·cases h
theorem toV_ok {t:Ty} {c:List TC} {x:List SC} {v:Den t} (h:toSC c=some x) (h2:ofC true t x=some v):c.map TC.pv=enc t v:=by
 rw [toSC_ok h,ofC_ok h2,sho_t]
theorem toVs_ok {t:Ty}:∀ {l:List (List TC)} {vs:List (Den t)},toVs t l=some vs→l.map (fun c=>c.map TC.pv)=vs.map (enc t)
 | [],vs,h=>by injection h with h;subst h;rfl
 | c::l,vs,h=>by
  unfold toVs at h;split at h
  ·rename_i x hx;split at h
   ·rename_i v hv;split at h
    ·rename_i vs' hvs;injection h with h;subst h;simp only [List.map_cons,toVs_ok hvs];rw [toV_ok hx hv]
    ·cases h
   ·cases h
  ·cases h
theorem setET_ok (hI:Inv P τ) {k:Nat}:∀ {ps:List (Nat×Ix)} {l m:List (List TC)} {Q:List (List PV)→Prop},setET k l τ ps=some m→(∀ c∈l,∀ x∈c,cok P τ.h τ.g x) →
  (m.length=l.length→(∀ c∈m,∀ x∈c,cok P τ.h τ.g x)→Q (m.map fun c=>c.map TC.pv))→setElems k (l.map fun c=>c.map TC.pv) (img n τ) ps Q
 | [],l,m,Q,h,hz,hq=>by injection h with h;subst h;exact hq rfl hz
 | (i,x)::ps,l,m,Q,h,hz,hq=>by
  simp only [setET] at h;split at h
  ·rename_i c hc;split at h
   ·rename_i h1 h2;have h1:=nbe h1;have h2:=Nat.le_of_ble_eq_true h2;obtain ⟨e1,k1⟩:=cells_ok (n:=n) hI hc;refine ⟨c.map TC.pv,e1,by simpa using h1,by simp;omega,?_⟩;have e:(l.map fun c=>c.map TC.pv).set i (c.map TC.pv)=(l.set i c).map fun c=>c.map TC.pv:=by rw [List.map_set]
    rw [e];refine setET_ok hI h (fun c' hc' => ?_) (fun hl=>hq (by simpa using hl));rcases List.mem_or_eq_of_mem_set hc' with hc'|rfl
    ·exact hz c' hc'
    ·exact k1
   ·cases h
  ·cases h
theorem newRefT (hI:Inv P τ) {tb:TB} {m:Nat} {rd:List Nat} (hv:∀ v k,vlen tb=some (v,k)→v=τ.g∧m=k) (hh:∀ v k q,hinf tb=some (v,k,q)→v=τ.g) (hb:HLe τ.h τ.g (setT τ.h b tb) (τ.g+1)→bok P (setT τ.h b tb) (τ.g+1) tb) :
  OkE P τ { v:=.r (.one (.ref b τ.g m)),wh:=[(b,tb)],rd:=rd,g:=τ.g+1 }:=by
 refine newOk hI (Nat.le_succ _) (fun v k hlt e=>by have:=(hv v k e).1;omega) (fun v k q hlt e=>by have:=hh v k q e;omega) hb ⟨Nat.lt_succ_self _,fun k e => ?_⟩;rw [tbAt_setT,if_pos rfl] at e;exact (hv _ _ e).2
theorem p_bsl (hI:Inv P τ) (hb:τ.h.length≤b) {et:Option Ty} {k m:Nat} {zs:List PV} {ps:List (Nat×Ix)} (h:teff τ b et (.bsl k m zs ps) K=some r) :
  opK P (img n τ) b (.bsl k m zs ps) fun E=>∃ te,E=te.img∧OkE P τ te∧K te=some r:=by
 simp only [teff] at h;split at h
 ·rename_i t cs hcs;obtain ⟨rfl,k1⟩:=ofConsts_ok (P:=P) hcs;split at h
  ·rename_i l hl hk;obtain rfl:=nbe hk;have hrep:List.replicate m (cs.map TC.pv)=(List.replicate m cs).map fun c=>c.map TC.pv:=by simp
   split at h
   ·split at h
    ·rename_i vs hvs;refine .inl ?_;simp only [effK];refine ⟨img_fresh b hb,?_⟩;rw [hrep];have hz:∀ c∈List.replicate m cs,∀ x∈c,cok P τ.h τ.g x:=fun c hc x hx=>by
      rw [List.eq_of_mem_replicate hc] at hx;exact k1 x hx _ _
     refine setET_ok hI hl hz fun hlen _=>⟨_,?_,newRefT hI (tb:=.sl t τ.g vs) (m:=m) (fun v q e => ?_) (fun _ _ _ e=>by simp [hinf] at e) (fun _=>Nat.lt_succ_self _),h⟩
     ·rw [toVs_ok hvs];rfl
     ·simp only [vlen,osi,Prod.mk.injEq] at e;refine ⟨e.1.symm,?_⟩;have:=congrArg List.length (toVs_ok hvs);simp at this hlen;omega
    ·cases h
   ·rename_i hf;have hm:m=1:=by
     simp only [Bool.or_eq_false_iff,Bool.not_eq_eq_eq_not,Bool.not_false] at hf;exact nbe hf.2
    subst hm;split at h
    ·rename_i row;split at h
     ·rename_i hrl;have hrl:=nbe hrl;refine .inr ⟨rfl,?_⟩;have hz:∀ c∈List.replicate 1 cs,∀ x∈c,cok P τ.h τ.g x:=fun c hc x hx=>by
       rw [List.eq_of_mem_replicate hc] at hx;exact k1 x hx _ _
      simp only [bslT,effK];refine ⟨img_fresh b hb,?_⟩;rw [hrep];refine setET_ok hI hl hz fun hlen hck => ?_
      have hth:=tthaw_ok τ.g (b+1) row;refine ⟨[],row.map TC.pv,rfl,?_,?_⟩
      ·rw [hth];intro y hy;obtain ⟨z,hz,rfl⟩:=List.mem_map.1 hy;have:=(tthaw_blk hz).1;exact ⟨img_fresh _ (by simp only [wsl];omega),by simp only [wsl];omega⟩
      ·rw [hth];have hbf:tbAt τ.h b=.fresh:=tbAt_ge _ _ hb;refine ⟨_,?_,thaw_okE hI (id:=b) (b':=b+1) (tb':=.hole t τ.g τ.g 0 [] (tthaw τ.g (b+1) row).1 [] none) (cs:=row) (v:=.r (.one (.ref b τ.g 1))) (Nat.lt_succ_self _) (by omega) (hck row (by simp)) (fun v m hv e=>by simp [vlen] at e;omega) (fun v m q hv e=>by simp [hinf] at e;omega) (fun h' le hcc => ?_) (fun h' le hcc e c hc => ?_),h⟩
       ·simp [TE.img,TV.rv,TR.r1,TC.pv,TB.slot,wsl]
       ·exact ⟨Nat.lt_succ_self _,Nat.lt_succ_self _,hcc,by rw [tthaw_len];exact hrl,⟨by omega,by simp⟩,by simp⟩
       ·have:c=.ref b τ.g 1:=by simpa [TV.cs,TR.cs] using hc
        subst this;refine ⟨Nat.lt_succ_self _,fun m' e' => ?_⟩;rw [e] at e';simp [vlen] at e';omega
     ·cases h
    ·cases h
  ·cases h
 ·cases h
theorem p_mks (hI:Inv P τ) (hb:τ.h.length≤b) {et:Option Ty} {k bytes:Nat} {zs:List PV} {x:Ix} (h:teff τ b et (.mks k bytes zs x) K=some r):Prm P n τ b (.mks k bytes zs x) K r:=by
 simp only [teff] at h;split at h
 ·rename_i t cs m hcs hx;obtain ⟨rfl,k1⟩:=ofConsts_ok (P:=P) hcs;obtain ⟨e1,_⟩:=ev1_ok (n:=n) hI hx (by simp);split at h
  ·rename_i z hz hk;obtain rfl:=nbe hk;obtain ⟨⟨g1,g2,g3⟩,h⟩:=gd_some h;have e:=toVs_ok hz;simp only [List.map_cons,List.map_nil,List.cons.injEq,and_true] at e;simp only [Prm,effK,e1,TC.pv,SC.pv];refine ⟨img_fresh b hb,g1,g2,g3,_,?_,newRefT hI (tb:=.sl t τ.g (List.replicate m.toNat z)) (m:=m.toNat) (fun v q e => ?_) (fun _ _ _ e=>by simp [hinf] at e) (fun _=>Nat.lt_succ_self _),h⟩
   ·simp [TE.img,TV.rv,TR.r1,TC.pv,TB.slot,e]
   ·simp only [vlen,osi,Prod.mk.injEq,List.length_replicate] at e;exact ⟨e.1.symm,e.2⟩
  ·cases h
 ·cases h
end
section
variable {P:Program} {τ:TSt} {n b:Nat} {E:TE} {R:Type} {K:TE→Option R} {r:R}
def bdP (σ:St) (o:Option Ix) (d:Nat) (Q:Nat→Prop):Prop :=
 match o with
 | none=>Q d
 | some y=>match σ.ev1 y with
  | .i _ m=>0≤m∧Q m.toNat
  | _=>False
theorem bdT_ok (hI:Inv P τ) {o:Option Ix} {d:Nat} {F:Nat→Option R} {Q:Nat→Prop} (h:bdT τ o d F=some r) (hq:∀ m,F m=some r→Q m):bdP (img n τ) o d Q:=by
 unfold bdT at h;split at h
 ·exact hq _ h
 ·split at h
  ·rename_i k m hx;obtain ⟨e1,_⟩:=ev1_ok (n:=n) hI hx (by simp);obtain ⟨h0,h⟩:=gd_some h;simp only [bdP,e1,TC.pv,SC.pv];exact ⟨h0,hq _ h⟩
  ·cases h
theorem effK_slc {σ:St} {k:Nat} {x:Ix} {lo hi:Option Ix} {Q:Eff→Prop}:effK σ b (.slc k x lo hi) Q =
  match σ.ev1 x with
  | .ref id l0 len full=>σ.blk id full fun B=>B.k=k∧bdP σ hi len fun h=>bdP σ lo 0 fun l=>l≤h∧h≤len∧Q { v:=.r (.one (.ref id (l0+l) (h-l) full)),rd:=[id] }
  | .vs o k' l0=>(o=false∨l0=[])∧(k'=k∨l0=[])∧bdP σ hi l0.length fun h=>bdP σ lo 0 fun l=>l≤h∧h≤l0.length∧Q { v:=.r (.one (.vs false k ((l0.drop l).take (h-l)))) }
  | _=>False:=rfl
theorem p_slc (hI:Inv P τ) {et:Option Ty} {k:Nat} {x:Ix} {lo hi:Option Ix} (h:teff τ b et (.slc k x lo hi) K=some r):Prm P n τ b (.slc k x lo hi) K r:=by
 simp only [teff,slcT] at h;split at h
 ·rename_i id v m hx;obtain ⟨e1,k1⟩:=ev1_ok (n:=n) hI hx (by simp);have key:∀ {B:Blk},(img n τ).slot id=.live B→B.l.length=m→B.k=k→(bdT τ hi m fun h=>bdT τ lo 0 fun l=>gd (l≤h∧h≤m) (K { v:=.r (.one (.part id v l (h-l) m)),rd:=[id],g:=τ.g }))=some r→Prm P n τ b (.slc k x lo hi) K r:=by
   intro B hs hl hk h;simp only [Prm,effK_slc,e1,TC.pv,St.blk,hs];refine ⟨hl,hk,?_⟩;refine bdT_ok (n:=n) hI h fun a h => ?_
   refine bdT_ok (n:=n) hI h fun c h => ?_
   obtain ⟨⟨g1,g2⟩,h⟩:=gd_some h;exact ⟨g1,g2,fin1 hI (c:=.part id v c (a-c) m) (by simp [TC.pv]) ⟨k1,by omega⟩ h⟩
  split at h
  ·rename_i v' k' hB;split at h
   ·rename_i hv hk;obtain rfl:=nbe hv;obtain rfl:=nbe hk;refine key (by rw [img_slot,hB];rfl) ?_ rfl h;exact (k1.2 _ (by rw [hB];rfl)).symm
   ·cases h
  ·rename_i t v' l hB;split at h
   ·rename_i hv hk;obtain rfl:=nbe hv;obtain rfl:=nbe hk;refine key (by rw [img_slot,hB];rfl) ?_ rfl h;rw [List.length_map];exact (k1.2 _ (by rw [hB];rfl)).symm
   ·cases h
  ·cases h
 ·rename_i t l0 hx;obtain ⟨e1,k1⟩:=ev1_ok (n:=n) hI hx (by simp);split at h
  ·rename_i hk;obtain rfl:=nbe hk;simp only [Prm,effK_slc,e1,TC.pv,SC.pv];refine ⟨.inl (by simp),.inl (by simp),?_⟩;rw [List.length_map];refine bdT_ok (n:=n) hI h fun a h => ?_
   refine bdT_ok (n:=n) hI h fun c h => ?_
   obtain ⟨⟨g1,g2⟩,h⟩:=gd_some h;refine ⟨g1,g2,fin1 hI (c:=.c (.sl false t ((l0.drop c).take (a-c)))) ?_ trivial h⟩;simp [TC.pv,SC.pv,List.map_take,List.map_drop]
  ·cases h
 ·rename_i o k' hx;obtain ⟨e1,k1⟩:=ev1_ok (n:=n) hI hx (by simp);simp only [Prm,effK_slc,e1,TC.pv,SC.pv];refine ⟨.inr (by simp),.inr (by simp),?_⟩;refine bdT_ok (n:=n) hI h fun a h => ?_
  refine bdT_ok (n:=n) hI h fun c h => ?_
  obtain ⟨⟨g1,g2⟩,h⟩:=gd_some h;refine ⟨g1,g2,fin1 hI (c:=.c (.nl false k)) ?_ trivial h⟩;simp [TC.pv,SC.pv]
 ·cases h
theorem whole_ok {t:Ty} {tb:TB} {v:Nat} {l:List (Den t)} {h:List TB} {g:Nat} (hb:bok P h g tb) (hw:whole t tb=some (v,l)):tb.slot=.live ⟨0,t.sz,[],l.map (enc t)⟩∧vlen tb=some (v,l.length):=by
 unfold whole at hw;split at hw
 ·split at hw
  ·rename_i hk;have:=nbe hk;simp only [osi,Prod.mk.injEq] at hw;obtain ⟨rfl,rfl⟩:=hw;simp [TB.slot,vlen,this]
  ·cases hw
 ·split at hw
  ·rename_i m hm;obtain ⟨e1,e2⟩:=asL_ok hm;simp only [osi,Prod.mk.injEq] at hw;obtain ⟨rfl,rfl⟩:=hw;have:=congrArg List.length e2;simp at this;simp [TB.slot,vlen,e1,e2,this]
  ·cases hw
 ·rename_i u v' hv y pre row post memo;obtain ⟨q1,q2,q3,q4,q5,q6⟩:=hb;split at hw
  ·rename_i l0;split at hw
   ·rename_i m hm;obtain ⟨e1,e2⟩:=asL_ok hm;simp only [osi,Prod.mk.injEq] at hw;obtain ⟨rfl,rfl⟩:=hw;have q:=q6 _ rfl;have:=congrArg List.length q;have:=congrArg List.length e2;simp at *;refine ⟨?_,by simp [vlen];omega⟩;simp [TB.slot,e1,←e2,q]
   ·cases hw
  ·split at hw
   ·rename_i x hx;split at hw
    ·rename_i e he;split at hw
     ·rename_i m hm;obtain ⟨e1,e2⟩:=asL_ok hm;simp only [osi,Prod.mk.injEq] at hw;obtain ⟨rfl,rfl⟩:=hw;have:=congrArg List.length e2;simp at this;refine ⟨?_,by simp [vlen];omega⟩;simp [TB.slot,e1,←e2,toV_ok hx he]
     ·cases hw
    ·cases hw
   ·cases hw
 ·cases hw
theorem take_mid {α:Type} {l:List α} {i:Nat} {x:α} (h:l[i]? = some x):l=l.take i++x::l.drop (i+1):=by
 obtain ⟨hi,rfl⟩:=List.getElem?_eq_some_iff.1 h;rw [← List.drop_eq_getElem_cons hi,List.take_append_drop]
theorem p_ia_go (hI:Inv P τ) {id v m k:Nat} {x:Int} {t:Ty} {l:List (Den t)} {e:Den t} (hs:(tbAt τ.h id).slot=.live ⟨0,t.sz,[],l.map (enc t)⟩) (hl:vlen (tbAt τ.h id)=some (v,l.length)) (hm:m=l.length)
  (h0:0≤x) (hx:l[x.toNat]? = some e):OkE P τ { v:=.r (.one (.hp id τ.g m x.toNat 0)),up:=[(id,.hole t v τ.g x (l.take x.toNat) ((cells t e).map .c) (l.drop (x.toNat+1)) (some l))],rd:=[id],g:=τ.g+1 }:=by
 have hlt:x.toNat<l.length:=(List.getElem?_eq_some_iff.1 hx).1;have hid:id<τ.h.length:=tbAt_lt (by intro e;rw [e] at hs;cases hs);have hmid:=take_mid hx;have hrow:((cells t e).map TC.c).map TC.pv=enc t e:=by
  rw [List.map_map,←cells_pv];rfl
 have hmap:l.map (enc t)=(l.take x.toNat).map (enc t)++enc t e::(l.drop (x.toNat+1)).map (enc t):=by
  conv=>lhs;rw [hmid]
  simp
 have hll:(l.take x.toNat).length+1+(l.drop (x.toNat+1)).length=l.length:=by simp;omega
 have hpre:(l.take x.toNat).length=x.toNat:=by simp;omega
 have hvb:v<τ.g:=by
  have:=hI.blks id
  revert this hl
  cases tbAt τ.h id with
  | nb v' k=>intro hl;simp [vlen] at hl;obtain ⟨rfl,_⟩:=hl;exact fun k=>k
  | sl u v' l'=>intro hl;simp [vlen] at hl;obtain ⟨rfl,_⟩:=hl;exact fun k=>k
  | hole u v' _ _ _ _ _ _=>intro hl;simp [vlen] at hl;obtain ⟨rfl,_⟩:=hl;exact fun k=>k.1
  | _=>intro hl;simp [vlen] at hl
 have le:HLe τ.h τ.g (setT τ.h id (.hole t v τ.g x (l.take x.toNat) ((cells t e).map .c) (l.drop (x.toNat+1)) (some l))) (τ.g+1):=by
  refine ⟨Nat.le_succ _,fun i v' m' hv' e' => ?_,fun i v' m' q hv' e' => ?_⟩
  ·rw [tbAt_setT] at e';by_cases hi:i=id
   ·subst hi;rw [if_pos rfl] at e';simp only [vlen,hll] at e';rw [hl];exact e'
   ·rwa [if_neg hi] at e'
  ·rw [tbAt_setT] at e';by_cases hi:i=id
   ·subst hi;rw [if_pos rfl] at e';simp [hinf] at e';omega
   ·rwa [if_neg hi] at e'
 refine ⟨fun c hc => ?_,le,fun i => ?_,?_⟩
 ·have:c=.hp id τ.g m x.toNat 0:=by simpa [TV.cs,TR.cs] using hc
  subst this;refine ⟨Nat.lt_succ_self _,fun m' q e' => ?_⟩;have e':hinf (tbAt (setT τ.h id _) id)=_:=e';rw [tbAt_setT,if_pos rfl] at e';simp only [hinf,hll,hpre,osi,Prod.mk.injEq,true_and] at e';omega
 ·show bok P _ _ (tbAt (setT τ.h id _) i);rw [tbAt_setT];by_cases hi:i=id
  ·rw [if_pos hi];refine ⟨by show v<τ.g+1;omega,Nat.lt_succ_self _,fun c hc => ?_,by simp [cells_len],⟨h0,hpre⟩,fun l' hl' => ?_⟩
   ·obtain ⟨z,_,rfl⟩:=List.mem_map.1 hc;trivial
   ·injection hl' with hl';subst hl';rw [hrow];exact hmap
  ·rw [if_neg hi];exact le.bok (hI.blks i)
 ·show (setT τ.h id _).map TB.slot=τ.h.map TB.slot;refine setT_same _ _ _ hid ?_;rw [hs];simp only [TB.slot,hrow,hmap]
theorem p_iaG (hI:Inv P τ) {k:Nat} {x y:Ix} {id v m lo len:Nat} {k0:IntKind} {y1 z:Int} (e1:(img n τ).ev1 x=.ref id lo len m) (k1:∀ m',vlen (tbAt τ.h id)=some (v,m')→m=m') (e2:(img n τ).ev1 y=.i k0 y1) (hz:z=lo+y1) (hc:0≤z→z<m→0≤y1∧y1<len) (h:iaT τ id v m k z K=some r):Prm P n τ b (.ia k x y) K r:=by
 have go:∀ (t:Ty) (v':Nat) (l:List (Den t)),(tbAt τ.h id).slot=.live ⟨0,t.sz,[],l.map (enc t)⟩→vlen (tbAt τ.h id)=some (v',l.length) →
   (match Nat.beq v v',Nat.beq t.sz k with
   | true,true=>bd (ix l z) fun e=>K { v:=.r (.one (.hp id τ.g m z.toNat 0)),up:=[(id,.hole t v τ.g z (l.take z.toNat) ((cells t e).map .c) (l.drop (z.toNat+1)) (some l))],rd:=[id],g:=τ.g+1 }
   | _,_=>none)=some r→Prm P n τ b (.ia k x y) K r:=by
  intro t v' l hs hl h9;split at h9
  ·rename_i hv hk;obtain rfl:=nbe hv;obtain rfl:=nbe hk;obtain ⟨e,he,h9⟩:=bd_some h9;obtain ⟨h0,he⟩:=ix_some he;have hm:m=l.length:=k1 _ hl;have hs':(img n τ).slot id=.live ⟨0,t.sz,[],l.map (enc t)⟩:=by rw [img_slot,hs]
   simp only [Prm,effK,e1,e2,TC.pv,SC.pv,St.blk,hs'];have hlt:z.toNat<l.length:=(List.getElem?_eq_some_iff.1 he).1;obtain ⟨c1,c2⟩:=hc h0 (by omega);have e9:lo+y1.toNat=z.toNat:=by omega
   refine ⟨by simp [hm],trivial,c1,c2,_,?_,p_ia_go hI (v:=v) hs hl hm h0 he (k:=0),h9⟩;simp [TE.img,TV.rv,TR.r1,TC.pv,e9]
  ·cases h9
 simp only [iaT] at h;split at h
 ·rename_i t v' l hB;refine go t v' l (by rw [hB];rfl) (by rw [hB];rfl) ?_;split at h
  ·rename_i hv hk;try rw [hv,hk]
   have:=nbe hv;subst this;exact h
  ·cases h
 ·rename_i t v' hv y0 pre row post memo hB;have hbk:=hI.blks id;rw [hB] at hbk;have hbk2:=hbk;obtain ⟨q1,q2,q3,q4,q5,q6⟩:=hbk;have hs:(img n τ).slot id=.live ⟨0,t.sz,[],pre.map (enc t)++row.map TC.pv::post.map (enc t)⟩:=by rw [img_slot,hB];rfl
  have same:(match Nat.beq v v',Nat.beq t.sz k with
   | true,true=>gd (z=y0) (K { v:=.r (.one (.hp id hv m pre.length 0)),rd:=[id],g:=τ.g })
   | _,_=>none)=some r→Prm P n τ b (.ia k x y) K r:=by
   intro h9;split at h9
   ·rename_i hvv hk;obtain rfl:=nbe hvv;obtain rfl:=nbe hk;obtain ⟨hz,h8⟩:=gd_some h9;subst hz;have hm:m=pre.length+1+post.length:=k1 _ (by rw [hB];rfl);simp only [Prm,effK,e1,e2,TC.pv,SC.pv,St.blk,hs];obtain ⟨c1,c2⟩:=hc q5.1 (by omega);have e9:lo+y1.toNat=z.toNat:=by omega
    refine ⟨by rw [hole_len];exact hm.symm,trivial,c1,c2,fin1 hI (c:=.hp id hv m pre.length 0) ?_ ⟨q2,fun m' q e => ?_⟩ h8⟩
    ·simp [TC.pv,q5.2,e9]
    ·rw [hB] at e;simp only [hinf,osi,Prod.mk.injEq,true_and] at e;omega
   ·cases h9
  split at h
  ·exact same h
  ·split at h
   ·rename_i v'' l hw;obtain ⟨w1,w2⟩:=whole_ok hbk2 hw;have:v''=v':=by
     simp only [vlen,osi,Prod.mk.injEq] at w2;exact w2.1.symm
    subst this;refine go t v'' l (by rw [hB];exact w1) (by rw [hB];exact w2) ?_;split at h
    ·rename_i hv hk;try rw [hv,hk]
     have:=nbe hv;subst this;exact h
    ·cases h
   ·exact same h
 ·cases h
theorem p_ia (hI:Inv P τ) {et:Option Ty} {k:Nat} {x y:Ix} (h:teff τ b et (.ia k x y) K=some r):Prm P n τ b (.ia k x y) K r:=by
 simp only [teff] at h;split at h
 ·rename_i id v m k0 z hx hy;obtain ⟨e1,k1⟩:=ev1_ok (n:=n) hI hx (by simp);obtain ⟨e2,_⟩:=ev1_ok (n:=n) hI hy (by simp);exact p_iaG hI (lo:=0) (len:=m) (y1:=z) e1 k1.2 e2 (by simp) (fun a b=>⟨a,b⟩) h
 ·rename_i id v lo len m k0 z hx hy;obtain ⟨e1,k1⟩:=ev1_ok (n:=n) hI hx (by simp);obtain ⟨e2,_⟩:=ev1_ok (n:=n) hI hy (by simp);obtain ⟨h0,h⟩:=gd_some h;exact p_iaG hI (lo:=lo) (len:=len) (y1:=z) e1 k1.1.2 e2 rfl (fun _ _=>h0) h
 ·rename_i t l k0 z hx hy;obtain ⟨e1,k1⟩:=ev1_ok (n:=n) hI hx (by simp);obtain ⟨e2,_⟩:=ev1_ok (n:=n) hI hy (by simp);split at h
  ·rename_i hk;obtain rfl:=nbe hk;obtain ⟨e,he,h⟩:=bd_some h;obtain ⟨h0,he⟩:=ix_some he;simp only [Prm,effK,e1,e2,TC.pv,SC.pv];refine ⟨h0,trivial,trivial,enc t e,by simp [he],fin1 hI (c:=.rp (cells t e) 0) ?_ trivial h⟩;simp [TC.pv,cells_pv]
  ·cases h
 ·cases h
end
section
variable {P:Program} {τ:TSt} {n b:Nat} {E:TE} {R:Type} {K:TE→Option R} {r:R}
def srcP (σ:St) (k:Nat) (y:PV) (Q:List (List PV)→List Nat→Prop):Prop :=
 match y with
 | .ref id lo len full=>σ.blk id full fun B=>B.k=k∧(∀ c∈B.l,∀ p∈c,p.free=true)∧Q ((B.l.drop lo).take len) [id]
 | .vs o k' l=>(o=false∨l=[])∧(k'=k∨l=[])∧Q (l.map fun c=>c.map PV.sh) []
 | _=>False
theorem effK_app {σ:St} {k bytes:Nat} {x y:Ix} {Q:Eff→Prop}:effK σ b (.app k bytes x y) Q =
  match σ.ev1 x with
  | .ref id 0 len full=>len=full∧σ.blk id full fun B=>B.k=k∧srcP σ k (σ.ev1 y) fun ys rd=>(len+ys.length)*bytes≤140737488355328∧(∀ c∈ys,c.length=k) ∧
    Q { v:=.r (.one (.ref id 0 (len+ys.length) (len+ys.length))),wh:=[(id,.live { B with kids:=[],l:=B.l++ys })],rd:=id::rd }
  | .vs true _ []=>σ.slot b=.fresh∧srcP σ k (σ.ev1 y) fun ys rd=>ys.length*bytes≤140737488355328∧(∀ c∈ys,c.length=k) ∧
    Q { v:=.r (.one (.ref b 0 ys.length ys.length)),wh:=[(b,.live ⟨0,k,[],ys⟩)],rd:=rd }
  | _=>False:=rfl
def Srd.pv:Srd→List (List PV)
 | .els t l _=>l.map (enc t)
 | .row _ cs _=>[cs.map TC.pv]
 | .nil _=>[]
def Srd.rd:Srd→List Nat
 | .els _ _ rd=>rd
 | .row _ _ rd=>rd
 | .nil rd=>rd
theorem freeR_ok:∀ {row:List TC},freeR row=true→∀ p∈row.map TC.pv,p.free=true
 | [],_,p,hp=>by simp at hp
 | c::row,h,p,hp=>by
  unfold freeR at h;split at h
  ·rename_i e;cases e
  ·cases h
  ·cases h
  ·rename_i c' r h1 h2 e;injection e with e1 e2;subst e1 e2;simp only [List.map_cons,List.mem_cons] at hp;rcases hp with rfl|hp
   ·cases c with
    | c x =>
     cases x with
     | sl o t l=>cases o<;>first|rfl|exact (h1 _ _ rfl).elim
     | nl o k=>cases o<;>first|rfl|exact (h2 _ rfl).elim
     | _=>rfl
    | _=>rfl
   ·exact freeR_ok h p hp
theorem srcT_ok (hI:Inv P τ) {k:Nat} {y:Ix} {s:Srd} {Q:List (List PV)→List Nat→Prop} (h:srcT τ k (τ.ev1 y)=some s)
  (hq:(∀ c∈s.pv,c.length=k)→(∀ t row rd,s=.row t row rd→(∀ c∈row,cok P τ.h τ.g c)∧row.length=t.sz)→Q s.pv s.rd):srcP (img n τ) k ((img n τ).ev1 y) Q:=by
 unfold srcT at h;split at h
 ·rename_i id v m hy;obtain ⟨e1,k1⟩:=ev1_ok (n:=n) hI hy (by simp);rw [e1];split at h
  ·rename_i v' k' hB;split at h
   ·rename_i hv hk;obtain rfl:=nbe hv;obtain rfl:=nbe hk;injection h with h;subst h;have hm:m=0:=k1.2 _ (by rw [hB];rfl);subst hm;have hs:(img n τ).slot id=.live ⟨0,k',[],[]⟩:=by rw [img_slot,hB];rfl
    simp only [srcP,TC.pv,St.blk,hs];exact ⟨rfl,trivial,by simp,hq (by simp [Srd.pv]) (by simp)⟩
   ·cases h
  ·rename_i t v' l hB;split at h
   ·rename_i hv hf hk;obtain rfl:=nbe hv;obtain rfl:=nbe hk;injection h with h;subst h;have hm:m=l.length:=k1.2 _ (by rw [hB];rfl);subst hm;have hs:(img n τ).slot id=.live ⟨0,t.sz,[],l.map (enc t)⟩:=by rw [img_slot,hB];rfl
    simp only [srcP,TC.pv,St.blk,hs];refine ⟨by simp,trivial,fun c hc p hp => ?_,?_⟩
    ·obtain ⟨v,_,rfl⟩:=List.mem_map.1 hc;exact enc_fr t hf v p hp
    ·have e:((l.map (enc t)).drop 0).take l.length=l.map (enc t):=by rw [List.drop_zero,List.take_of_length_le (by simp)]
     rw [e];refine hq (fun c hc => ?_) (by simp);obtain ⟨v,_,rfl⟩:=List.mem_map.1 hc;exact enc_len t v
   ·cases h
  ·rename_i t v' hv y0 row memo hB;split at h
   ·rename_i hvv hf hk;obtain rfl:=nbe hvv;obtain rfl:=nbe hk;injection h with h;subst h;have hbk:=hI.blks id;rw [hB] at hbk;obtain ⟨q1,q2,q3,q4,q5,q6⟩:=hbk;have hm:m=1:=k1.2 _ (by rw [hB];rfl);subst hm;have hs:(img n τ).slot id=.live ⟨0,t.sz,[],[row.map TC.pv]⟩:=by rw [img_slot,hB];rfl
    simp only [srcP,TC.pv,St.blk,hs];refine ⟨rfl,trivial,fun c hc p hp => ?_,hq ?_ ?_⟩
    ·obtain rfl:=List.mem_singleton.1 hc;exact freeR_ok hf p hp
    ·intro c hc;obtain rfl:=List.mem_singleton.1 hc;simpa using q4
    ·rintro t' row' rd' e;injection e with e1 e2 e3;subst e1 e2;exact ⟨q3,q4⟩
   ·cases h
  ·cases h
 ·rename_i id v lo len m hy;obtain ⟨e1,k1⟩:=ev1_ok (n:=n) hI hy (by simp);rw [e1];split at h
  ·rename_i t v' l hB;split at h
   ·rename_i hv hf hk;obtain rfl:=nbe hv;obtain rfl:=nbe hk;injection h with h;subst h;have hm:m=l.length:=k1.1.2 _ (by rw [hB];rfl);subst hm;have hs:(img n τ).slot id=.live ⟨0,t.sz,[],l.map (enc t)⟩:=by rw [img_slot,hB];rfl
    simp only [srcP,TC.pv,St.blk,hs];refine ⟨by simp,trivial,fun c hc p hp => ?_,?_⟩
    ·obtain ⟨v,_,rfl⟩:=List.mem_map.1 hc;exact enc_fr t hf v p hp
    ·have e:((l.map (enc t)).drop lo).take len=((l.drop lo).take len).map (enc t):=by rw [List.map_take,List.map_drop]
     rw [e];refine hq (fun c hc => ?_) (by simp);obtain ⟨v,_,rfl⟩:=List.mem_map.1 hc;exact enc_len t v
   ·cases h
  ·cases h
 ·rename_i t l hy;obtain ⟨e1,k1⟩:=ev1_ok (n:=n) hI hy (by simp);rw [e1];split at h
  ·rename_i hf hk;obtain rfl:=nbe hk;injection h with h;subst h;simp only [srcP,TC.pv,SC.pv];refine ⟨.inl (by simp),.inl (by simp),?_⟩;have e:((l.map (enc t)).map fun c=>c.map PV.sh)=l.map (enc t):=by simp [Function.comp_def,enc_sh t hf]
   rw [e];refine hq (fun c hc => ?_) (by simp);obtain ⟨v,_,rfl⟩:=List.mem_map.1 hc;exact enc_len t v
  ·cases h
 ·rename_i o k' hy;obtain ⟨e1,k1⟩:=ev1_ok (n:=n) hI hy (by simp);rw [e1];injection h with h;subst h;simp only [srcP,TC.pv,SC.pv];exact ⟨.inr trivial,.inr trivial,hq (by simp [Srd.pv]) (by simp)⟩
 ·cases h
theorem oldRef (hI:Inv P τ) {id:Nat} {tb:TB} {m:Nat} {rd:List Nat} (hv:∀ v k,vlen tb=some (v,k)→v=τ.g∧m=k) (hh:∀ v k q,hinf tb=some (v,k,q)→v=τ.g) (hb:HLe τ.h τ.g (setT τ.h id tb) (τ.g+1)→bok P (setT τ.h id tb) (τ.g+1) tb) :
  OkE P τ { v:=.r (.one (.ref id τ.g m)),wh:=[(id,tb)],rd:=rd,g:=τ.g+1 }:=newRefT hI hv hh hb
theorem vlen_sl {t:Ty} {g:Nat} {l:List (Den t)} {m:Nat} (hm:m=l.length):∀ v k,vlen (.sl t g l)=some (v,k)→v=g∧m=k:=by
 intro v k e;simp only [vlen,osi,Prod.mk.injEq] at e;omega
theorem hinf_sl {t:Ty} {g:Nat} {l:List (Den t)}:∀ v k q,hinf (.sl t g l)=some (v,k,q)→v=g:=by
 intro v k q e;simp [hinf] at e
theorem p_app (hI:Inv P τ) (hb:τ.h.length≤b) {et:Option Ty} {k bytes:Nat} {x y:Ix} (h:teff τ b et (.app k bytes x y) K=some r):Prm P n τ b (.app k bytes x y) K r:=by
 simp only [teff,appT] at h;split at h
 ·rename_i id v m hx;obtain ⟨e1,k1⟩:=ev1_ok (n:=n) hI hx (by simp);have key:∀ {t:Ty} {v':Nat} {l:List (Den t)} {s:Srd} {Q:List (List PV)→List Nat→Prop},whole t (tbAt τ.h id)=some (v',l)→v=v'→t.sz=k→srcT τ k (τ.ev1 y)=some s →
    ((
     ∀ c∈s.pv,c.length=k)→(∀ t row rd,s=.row t row rd→(∀ c∈row,cok P τ.h τ.g c)∧row.length=t.sz) →
     (l.length+s.pv.length)*bytes≤140737488355328∧∃ te,({ v:=.r (.one (.ref id 0 (l.length+s.pv.length) (l.length+s.pv.length))),wh:=[(id,.live ⟨0,t.sz,[],l.map (enc t)++s.pv⟩)],rd:=id::s.rd }:Eff)=te.img∧OkE P τ te∧K te=some r)→Prm P n τ b (.app k bytes x y) K r:=by
   intro t v' l s Q hw hv hk hsrc hgo;subst hv hk;obtain ⟨w1,w2⟩:=whole_ok (hI.blks id) hw;have hm:m=l.length:=k1.2 _ w2;subst hm;have hs:(img n τ).slot id=.live ⟨0,t.sz,[],l.map (enc t)⟩:=by rw [img_slot,w1]
   simp only [Prm,effK_app,e1,TC.pv,St.blk,hs];refine ⟨trivial,by simp,trivial,srcT_ok (n:=n) hI hsrc fun q1 q2 => ?_⟩;obtain ⟨g1,te,g2,g3,g4⟩:=hgo q1 q2;exact ⟨g1,q1,te,g2,g3,g4⟩
  split at h
  ·rename_i rd hsrc;split at h
   ·rename_i v' k' hB;split at h
    ·rename_i hv hk;obtain rfl:=nbe hv;obtain rfl:=nbe hk;obtain ⟨g1,h⟩:=gd_some h;have hm:m=0:=k1.2 _ (by rw [hB];rfl);subst hm;have hs:(img n τ).slot id=.live ⟨0,k',[],[]⟩:=by rw [img_slot,hB];rfl
     simp only [Prm,effK_app,e1,TC.pv,St.blk,hs];refine ⟨trivial,rfl,trivial,srcT_ok (n:=n) hI hsrc fun q1 q2=>⟨by simp [Srd.pv],q1,_,?_,oldRef hI (tb:=.nb τ.g k') (m:=0) (fun v q e => ?_) (fun _ _ _ e=>by simp [hinf] at e) (fun _=>Nat.lt_succ_self _),h⟩⟩
     ·simp [TE.img,TV.rv,TR.r1,TC.pv,TB.slot,Srd.pv,Srd.rd]
     ·simp only [vlen,osi,Prod.mk.injEq] at e;omega
    ·cases h
   ·split at h
    ·rename_i t ht;split at h
     ·rename_i v' l hw hk;split at h
      ·rename_i hv;obtain ⟨g1,h⟩:=gd_some h;refine key (Q:=fun _ _=>True) hw (nbe hv) (nbe hk) hsrc fun q1 q2=>⟨by simpa [Srd.pv] using g1,_,?_,oldRef hI (tb:=.sl t τ.g l) (m:=l.length) (vlen_sl rfl) hinf_sl (fun _=>Nat.lt_succ_self _),h⟩
       simp [TE.img,TV.rv,TR.r1,TC.pv,TB.slot,Srd.pv,Srd.rd]
      ·cases h
     ·cases h
    ·cases h
  ·rename_i t m' rd hsrc;split at h
   ·rename_i v' l hw hk;split at h
    ·rename_i hv;obtain ⟨g1,h⟩:=gd_some h;refine key (Q:=fun _ _=>True) hw (nbe hv) (nbe hk) hsrc fun q1 q2=>⟨by simpa [Srd.pv] using g1,_,?_,oldRef hI (tb:=.sl t τ.g (l++m')) (m:=l.length+m'.length) (vlen_sl (by simp)) hinf_sl (fun _=>Nat.lt_succ_self _),h⟩
     simp [TE.img,TV.rv,TR.r1,TC.pv,TB.slot,Srd.pv,Srd.rd]
    ·cases h
   ·cases h
  ·rename_i t row rd hsrc;split at h
   ·rename_i v' l hw hk;split at h
    ·rename_i hv;obtain ⟨g1,h⟩:=gd_some h;refine key (Q:=fun _ _=>True) hw (nbe hv) (nbe hk) hsrc fun q1 q2=>⟨by simpa [Srd.pv] using g1,_,?_,oldRef hI (tb:=.hole t τ.g τ.g l.length l row [] none) (m:=l.length+1) (fun v q e => ?_) (fun v q q' e => ?_) (fun le => ?_),h⟩
     ·simp [TE.img,TV.rv,TR.r1,TC.pv,TB.slot,Srd.pv,Srd.rd]
     ·simp [vlen] at e;omega
     ·simp [hinf] at e;omega
     ·obtain ⟨r1,r2⟩:=q2 _ _ _ rfl;exact ⟨Nat.lt_succ_self _,Nat.lt_succ_self _,fun c hc=>le.cok (r1 c hc),r2,⟨by omega,by simp⟩,by simp⟩
    ·cases h
   ·cases h
  ·cases h
 ·rename_i k' hx;obtain ⟨e1,k1⟩:=ev1_ok (n:=n) hI hx (by simp);split at h
  ·rename_i rd hsrc;simp only [Prm,effK_app,e1,TC.pv,SC.pv];refine ⟨img_fresh b hb,srcT_ok (n:=n) hI hsrc fun q1 q2=>⟨by simp [Srd.pv],q1,_,?_,newRefT hI (tb:=.nb τ.g k) (m:=0) (fun v q e => ?_) (fun _ _ _ e=>by simp [hinf] at e) (fun _=>Nat.lt_succ_self _),h⟩⟩
   ·simp [TE.img,TV.rv,TR.r1,TC.pv,TB.slot,Srd.pv,Srd.rd]
   ·simp only [vlen,osi,Prod.mk.injEq] at e;omega
  ·rename_i t m' rd hsrc;split at h
   ·rename_i hk;obtain rfl:=nbe hk;obtain ⟨g1,h⟩:=gd_some h;simp only [Prm,effK_app,e1,TC.pv,SC.pv];refine ⟨img_fresh b hb,srcT_ok (n:=n) hI hsrc fun q1 q2=>⟨by simpa [Srd.pv] using g1,q1,_,?_,newRefT hI (tb:=.sl t τ.g m') (m:=m'.length) (vlen_sl rfl) hinf_sl (fun _=>Nat.lt_succ_self _),h⟩⟩;simp [TE.img,TV.rv,TR.r1,TC.pv,TB.slot,Srd.pv,Srd.rd]
   ·cases h
  ·rename_i t row rd hsrc;split at h
   ·rename_i hk;obtain rfl:=nbe hk;obtain ⟨g1,h⟩:=gd_some h;simp only [Prm,effK_app,e1,TC.pv,SC.pv];refine ⟨img_fresh b hb,srcT_ok (n:=n) hI hsrc fun q1 q2=>⟨by simpa [Srd.pv] using g1,q1,_,?_,newRefT hI (tb:=.hole t τ.g τ.g 0 [] row [] none) (m:=1) (fun v q e => ?_) (fun v q q' e => ?_) (fun le => ?_),h⟩⟩
    ·simp [TE.img,TV.rv,TR.r1,TC.pv,TB.slot,Srd.pv,Srd.rd]
    ·simp [vlen] at e;omega
    ·simp [hinf] at e;omega
    ·obtain ⟨r1,r2⟩:=q2 _ _ _ rfl;exact ⟨Nat.lt_succ_self _,Nat.lt_succ_self _,fun c hc=>le.cok (r1 c hc),r2,⟨by omega,by simp⟩,by simp⟩
   ·cases h
  ·cases h
 ·cases h
theorem effK_copy {σ:St} {x y:Ix} {Q:Eff→Prop}:effK σ b (.copy x y) Q =
  match σ.ev1 x with
  | .ref id lo len full=>σ.blk id full fun B=>B.k=1∧srcP σ 1 (σ.ev1 y) fun ys rd=>(∀ c∈ys,c.length=1) ∧
    Q { v:=.r (.one (.i .i64 ((min ys.length len:Nat):Int))),wh:=[(id,.live { B with kids:=[],l:=B.l.take lo++ys.take len++B.l.drop (lo+min ys.length len) })],rd:=id::rd }
  | _=>False:=rfl
theorem p_copy (hI:Inv P τ) {et:Option Ty} {x y:Ix} (h:teff τ b et (.copy x y) K=some r):Prm P n τ b (.copy x y) K r:=by
 simp only [teff,copyT] at h;have key:∀ {id v lo len m:Nat} {t:Ty} {v':Nat} {l:List (Den t)} {u:Ty} {m0:List (Den u)} {rd:List Nat} {m':List (Den t)},(img n τ).ev1 x=.ref id lo len m→tbAt τ.h id=.sl t v' l→m=l.length→lo+len≤l.length→t.sz=1→srcT τ 1 (τ.ev1 y)=some (.els u m0 rd)→asL u t m0=some m' →
   K { v:=.r (.one (.c (.i .i64 (min m'.length len:Nat)))),wh:=[(id,.sl t v' (l.take lo++m'.take len++l.drop (lo+min m'.length len)))],rd:=id::rd,g:=τ.g }=some r→Prm P n τ b (.copy x y) K r:=by
  intro id v lo len m t v' l u m0 rd m' e1 hB hm hle hsz hsrc has h;subst hm;have hs:(img n τ).slot id=.live ⟨0,t.sz,[],l.map (enc t)⟩:=by rw [img_slot,hB];rfl
  obtain ⟨_,has2⟩:=asL_ok has;have hlen:m0.length=m'.length:=by simpa using congrArg List.length has2
  have hnl:(l.take lo++m'.take len++l.drop (lo+min m'.length len)).length=l.length:=by
   simp only [List.length_append,List.length_take,List.length_drop];omega
  have hblk:=hI.blks id;rw [hB] at hblk;simp only [Prm,effK_copy,e1,St.blk,hs];refine ⟨by simp,hsz,srcT_ok (n:=n) hI hsrc fun q1 q2=>⟨q1,_,?_,OkE.wr (v:=.r (.one (.c (.i .i64 (min m'.length len:Nat))))) (wh:=[(id,.sl t v' (l.take lo++m'.take len++l.drop (lo+min m'.length len)))]) (rd:=id::rd) hI (Nat.le_refl _) (fun e he => ?_) (fun le e he => ?_) (fun _ c hc => ?_),h⟩⟩
  ·simp only [TE.img,TV.rv,TR.r1,TC.pv,SC.pv,Srd.pv,Srd.rd,List.map_cons,List.map_nil,TB.slot,has2,List.map_append,List.map_take,List.map_drop,List.length_map]
  ·obtain rfl:e=(id,.sl t v' (l.take lo++m'.take len++l.drop (lo+min m'.length len))):=by simpa using he
   refine ⟨fun v m hv e => ?_,fun v m q hv e=>by simp [hinf] at e⟩;rw [hB];simp only [vlen,osi,Prod.mk.injEq] at e ⊢;omega
  ·obtain rfl:e=(id,.sl t v' (l.take lo++m'.take len++l.drop (lo+min m'.length len))):=by simpa using he
   exact hblk
  ·have:c=.c (.i .i64 (min m'.length len:Nat)):=by simpa [TV.cs,TR.cs] using hc
   subst this;trivial
 split at h
 ·rename_i id v m hx;obtain ⟨e1,k1⟩:=ev1_ok (n:=n) hI hx (by simp);split at h
  ·rename_i t v' l hB;split at h
   ·rename_i u m0 rd hv hk hsrc;obtain rfl:=nbe hv;split at h
    ·rename_i m' has;have hm:m=l.length:=k1.2 _ (by rw [hB];rfl);exact key (v:=v) e1 hB hm (by omega) (nbe hk) hsrc has h
    ·cases h
   ·cases h
  ·cases h
 ·rename_i id v lo len m hx;obtain ⟨e1,k1⟩:=ev1_ok (n:=n) hI hx (by simp);split at h
  ·rename_i t v' l hB;split at h
   ·rename_i u m0 rd hv hk hsrc;obtain rfl:=nbe hv;split at h
    ·rename_i m' has;have hm:m=l.length:=k1.1.2 _ (by rw [hB];rfl);have hle:=k1.2;exact key (v:=v) e1 hB hm (by omega) (nbe hk) hsrc has h
    ·cases h
   ·cases h
  ·cases h
 ·cases h
theorem teff_ok (hI:Inv P τ) (hb:τ.h.length≤b) {et:Option Ty} {k:AK} (h:teff τ b et k K=some r):opK P (img n τ) b k fun E=>∃ te,E=te.img∧OkE P τ te∧K te=some r:=by
 cases k with
 | mv x=>exact p_mv (P:=P) hI h
 | nils k=>cases h
 | pick c x y=>exact p_pick (P:=P) hI h
 | box x=>exact p_box (P:=P) hI hb h
 | alloc zs=>exact p_alloc (P:=P) hI hb h
 | build zs ps=>exact p_build (P:=P) hI h
 | bsl k m zs ps=>exact p_bsl hI hb h
 | mks k bytes zs x=>exact p_mks (P:=P) hI hb h
 | ld1 x=>exact p_ld1 (P:=P) hI hb h
 | ld m x=>exact p_ld (P:=P) hI hb h
 | st m x y=>exact p_st (P:=P) hI h
 | nchk x=>exact p_nchk (P:=P) hI h
 | bin bo op x y=>exact p_bin (P:=P) hI h
 | eqs ng ks x y=>exact p_eqs (P:=P) hI h
 | not x=>exact p_not (P:=P) hI h
 | neg x=>exact p_neg (P:=P) hI h
 | conv k x=>exact p_conv (P:=P) hI h
 | slc k x lo hi=>exact p_slc (P:=P) hI h
 | fa off x=>exact p_fa (P:=P) hI h
 | ia k x y=>exact p_ia (P:=P) hI h
 | len x=>exact p_len (P:=P) hI h
 | app k bytes x y=>exact p_app (P:=P) hI hb h
 | copy x y=>exact p_copy (P:=P) hI h
 | mn x y=>exact p_mn (P:=P) hI h
 | mx x y=>exact p_mx (P:=P) hI h
 | ext i x=>exact p_ext (P:=P) hI h
 | mkf f l=>exact p_mkf (P:=P) hI h
 | call f l=>cases h
 | clo x l=>cases h
end
end Go.Proofs.YteecakkojdhmaaaGreatA.AS
