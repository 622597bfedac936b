/- A part of the proof that FnFloRecs holds: an abstract machine, typed evaluation, and that both are sound. -/
import Derived.Test.YteecakkojdhmaaaGreatAs2
set_option linter.unusedVariables false
set_option linter.unusedSimpArgs false
namespace Go.Proofs.YteecakkojdhmaaaGreatA.AS
def Ty.simB:Ty→Ty→Bool
 | .int k,.int l=>kindB k l
 | .bool,.bool=>true
 | .str,.str=>true
 | .sl t,.sl u=>t.simB u
 | .sl t,.vw u=>t.simB u
 | .vw t,.sl u=>t.simB u
 | .vw t,.vw u=>t.simB u
 | .pr a b,.pr c d=>a.simB c&&b.simB d
 | _,_=>false
theorem simDen:∀ {a b:Ty},a.simB b=true→Den a=Den b
 | .int k,b,h=>by cases b<;>first|rfl|cases h
 | .bool,b,h=>by cases b<;>first|rfl|cases h
 | .str,b,h=>by cases b<;>first|rfl|cases h
 | .sl t,b,h=>by cases b<;>first|exact congrArg List (simDen (a:=t) h)|cases h
 | .vw t,b,h=>by cases b<;>first|exact congrArg List (simDen (a:=t) h)|cases h
 | .pr a c,b,h=>by
  cases b<;>first|cases h;done|skip
  simp only [Ty.simB,bae] at h;have h1:=simDen h.1;have h2:=simDen h.2;show (Den a×Den c)=(Den _×Den _)
  rw [h1,h2]
theorem simSz:∀ {a b:Ty},a.simB b=true→a.sz=b.sz
 | .int k,b,h=>by cases b<;>first|rfl|cases h
 | .bool,b,h=>by cases b<;>first|rfl|cases h
 | .str,b,h=>by cases b<;>first|rfl|cases h
 | .sl t,b,h=>by cases b<;>first|rfl|cases h
 | .vw t,b,h=>by cases b<;>first|rfl|cases h
 | .pr a c,b,h=>by
  cases b<;>first|cases h;done|skip
  simp only [Ty.simB,bae] at h;simp only [Ty.sz,simSz h.1,simSz h.2]
theorem cast_list {A B:Type} (h:A=B) (h':List A=List B) (l:List A) (e:Nat):(cast h' l)[e]? = (l[e]?).map (cast h):=by subst h;simp only [cast_eq];cases l[e]? <;> rfl
theorem cast_len {A B:Type} (h:A=B) (h':List A=List B) (l:List A):(cast h' l).length=l.length:=by subst h;rfl
theorem cast_pr {A B C D:Type} (h:A=C) (k:B=D) (h':(A×B)=(C×D)) (x:A×B):cast h' x=(cast h x.1,cast k x.2):=by subst h;subst k;rfl
theorem sz_pos0:∀ (t:Ty),0<t.sz
 | .int _=>Nat.one_pos
 | .bool=>Nat.one_pos
 | .str=>Nat.one_pos
 | .sl _=>Nat.one_pos
 | .vw _=>Nat.one_pos
 | .pr a b=>Nat.add_pos_left (sz_pos0 a) _
theorem rc_list {w:World} {M:Nat→Prop} {X:Ctx} {t u:Ty} (hs:t.sz=u.sz) (hD:Den t=Den u) (hD':List (Den t)=List (Den u))
  (ih:∀ (x:Den t) (j:Nat) (p q:PV) (v:Value),(enc t x)[j]? = some p→(enc u (cast hD x))[j]? = some q→RC w M X p.sh v []→RC w M X q.sh v [])
  (l:List (Den t)) (v:Value) (h:RC w M X (.vs false t.sz (l.map (enc t))) v []):RC w M X (.vs false u.sz ((cast hD' l).map (enc u))) v []:=by
 have hcl:=cast_len hD hD' l;cases h with
 | @ro _ _ A c xs hn hk hl hx hc =>
  have e0:(l.map (enc t)).length=((cast hD' l).map (enc u)).length:=by simp [hcl]
  rw [e0];have hk2:∀ c∈(cast hD' l).map (enc u),c.length=u.sz:=by
   intro c hc;obtain ⟨z,_,rfl⟩:=List.mem_map.1 hc;exact enc_len u z
  refine .ro (by rw [← e0];exact hn) hk2 ?_ hx fun j q v hq hv => ?_
  ·rw [← hl,flatten_len _ hk2,flatten_len _ hk,←e0,hs]
  ·have hpos:=sz_pos0 u;have hi:j/u.sz*u.sz+j % u.sz=j:=by have:=Nat.div_add_mod j u.sz;rw [Nat.mul_comm] at this;exact this
   have hm:j % u.sz<u.sz:=Nat.mod_lt _ hpos;rw [← hi,flatten_get _ hk2 _ _ hm,List.getElem?_map,cast_list hD hD'] at hq;cases hle:l[j/u.sz]? with
   | none=>rw [hle] at hq;simp at hq
   | some x =>
    rw [hle] at hq;simp only [Option.map_some,Option.bind_some] at hq;have hlt:j % u.sz<(enc t x).length:=by rw [enc_len,hs];exact hm
    have hp:(l.map (enc t)).flatten[j]? = some ((enc t x)[j % u.sz]):=by
     have:=flatten_get (l.map (enc t)) hk (j/t.sz) (j % t.sz) (by rw [hs];exact hm);rw [hs,hi] at this;rw [this,List.getElem?_map,hle];simp
    exact ih x _ _ q v (List.getElem?_eq_getElem hlt) hq (hc j _ v hp hv)
theorem rc_sim {w:World} {M:Nat→Prop} {X:Ctx}:∀ (t u:Ty) (h:t.simB u=true) (hD:Den t=Den u) (x:Den t) (j:Nat) (p q:PV) (v:Value),(enc t x)[j]? = some p→(enc u (cast hD x))[j]? = some q→RC w M X p.sh v []→RC w M X q.sh v []
 | .int k,u,h,hD,x,j,p,q,v,hp,hq,hr=>by
  cases u<;>first|cases h;done|skip
  obtain rfl:=kindB_ok h;have e:cast hD x=x:=rfl;rw [e,hp] at hq;injection hq with hq;subst hq;exact hr
 | .bool,u,h,hD,x,j,p,q,v,hp,hq,hr=>by
  cases u<;>first|cases h;done|skip
  have e:cast hD x=x:=rfl;rw [e,hp] at hq;injection hq with hq;subst hq;exact hr
 | .str,u,h,hD,x,j,p,q,v,hp,hq,hr=>by
  cases u<;>first|cases h;done|skip
  have e:cast hD x=x:=rfl;rw [e,hp] at hq;injection hq with hq;subst hq;exact hr
 | .sl t,u,h,hD,x,j,p,q,v,hp,hq,hr=>by
  have key:∀ u',t.simB u'=true→∀ (hD:List (Den t)=List (Den u')) (o:Bool),[PV.vs o t.sz (List.map (enc t) x)][j]? = some p→(∃ o',[PV.vs o' u'.sz (List.map (enc u') (cast hD x))][j]? = some q)→RC w M X q.sh v []:=by
   intro u' h hD o hp hq;obtain ⟨o',hq⟩:=hq;cases j with
   | succ j=>simp at hp
   | zero =>
    simp only [List.getElem?_cons_zero,osi] at hp hq;subst hp hq;exact rc_list (t:=t) (u:=u') (simSz h) (simDen h) hD (fun x j p q v=>rc_sim t u' h (simDen h) x j p q v) x v hr
  cases u with
  | sl u'=>exact key u' h hD _ hp ⟨_,hq⟩
  | vw u'=>exact key u' h hD _ hp ⟨_,hq⟩
  | _=>cases h
 | .vw t,u,h,hD,x,j,p,q,v,hp,hq,hr=>by
  have key:∀ u',t.simB u'=true→∀ (hD:List (Den t)=List (Den u')) (o:Bool),[PV.vs o t.sz (List.map (enc t) x)][j]? = some p→(∃ o',[PV.vs o' u'.sz (List.map (enc u') (cast hD x))][j]? = some q)→RC w M X q.sh v []:=by
   intro u' h hD o hp hq;obtain ⟨o',hq⟩:=hq;cases j with
   | succ j=>simp at hp
   | zero =>
    simp only [List.getElem?_cons_zero,osi] at hp hq;subst hp hq;exact rc_list (t:=t) (u:=u') (simSz h) (simDen h) hD (fun x j p q v=>rc_sim t u' h (simDen h) x j p q v) x v hr
  cases u with
  | sl u'=>exact key u' h hD _ hp ⟨_,hq⟩
  | vw u'=>exact key u' h hD _ hp ⟨_,hq⟩
  | _=>cases h
 | .pr a b,u,h,hD,x,j,p,q,v,hp,hq,hr=>by
  cases u<;>first|cases h;done|skip
  rename_i c d;simp only [Ty.simB,bae] at h;rw [cast_pr (simDen h.1) (simDen h.2) hD x] at hq;simp only [enc] at hp hq;have e1:=enc_len a x.1;have e2:=enc_len c (cast (simDen h.1) x.1);have e3:=simSz h.1;by_cases hj:j<a.sz
  ·rw [List.getElem?_append_left (by omega)] at hp hq;exact rc_sim a c h.1 _ x.1 j p q v hp hq hr
  ·rw [List.getElem?_append_right (by omega)] at hp hq;rw [e1] at hp;rw [e2,←e3] at hq;exact rc_sim b d h.2 _ x.2 _ p q v hp hq hr
def asS (t u:Ty) (l:List (Den t)):Option (List (Den u)) :=
 match h:t.simB u with
 | true=>some (cast (congrArg List (simDen h)) l)
 | false=>none
def ofV1 (t:Ty):SC→Option (List (Den t))
 | .sl false u l=>asS u t l
 | .nl false k=>match Nat.beq k t.sz with
  | true=>some []
  | false=>none
 | _=>none
def ofV:(t:Ty)→List SC→Option (Den t)
 | .int k,l=>match l with
  | [.i k' n]=>match kindB k k' with
   | true=>some n
   | false=>none
  | _=>none
 | .bool,l=>match l with
  | [.b x]=>some x
  | _=>none
 | .str,l=>match l with
  | [.s x]=>some x
  | _=>none
 | .sl t,l=>match l with
  | [x]=>ofV1 t x
  | _=>none
 | .vw t,l=>match l with
  | [x]=>ofV1 t x
  | _=>none
 | .pr a b,l=>match ofV a (spl a.sz l).1 with
  | some x=>match ofV b (spl a.sz l).2 with
   | some y=>some (x,y)
   | none=>none
  | none=>none
def ImpP (p q:PV):Prop:=∀ (w:World) (M:Nat→Prop) (X:Ctx) (v:Value),RC w M X p v []→RC w M X q v []
def ImpL:List PV→List PV→Prop
 | [],[]=>True
 | p::ps,q::qs=>ImpP p q∧ImpL ps qs
 | _,_=>False
theorem ImpL.append:∀ {ps qs ps' qs':List PV},ImpL ps qs→ImpL ps' qs'→ImpL (ps++ps') (qs++qs')
 | [],[],_,_,_,k=>k
 | p::ps,q::qs,_,_,h,k=>⟨h.1,ImpL.append h.2 k⟩
 | [],_::_,_,_,h,_=>h.elim
 | _::_,[],_,_,h,_=>h.elim
theorem ImpL.len:∀ {ps qs:List PV},ImpL ps qs→ps.length=qs.length
 | [],[],_=>rfl
 | p::ps,q::qs,h=>by simp [ImpL.len h.2]
 | [],_::_,h=>h.elim
 | _::_,[],h=>h.elim
theorem ImpL.get:∀ {ps qs:List PV} {j:Nat} {q:PV},ImpL ps qs→qs[j]? = some q→∃ p,ps[j]? = some p∧ImpP p q
 | [],[],j,q,_,h=>by simp at h
 | p::ps,q::qs,0,r,h,k=>by simp at k;subst k;exact ⟨p,rfl,h.1⟩
 | p::ps,q::qs,j+1,r,h,k=>by simpa using ImpL.get h.2 (by simpa using k)
 | [],_::_,_,_,h,_=>h.elim
 | _::_,[],_,_,h,_=>h.elim
theorem ofV1_imp {t:Ty} {x:SC} {v:List (Den t)} (h:ofV1 t x=some v):ImpP x.pv (.vs false t.sz (v.map (enc t))):=by
 unfold ofV1 at h;split at h
 ·rename_i u l;unfold asS at h;split at h
  ·rename_i hs;injection h with h;subst h;intro w M X v hr;exact rc_list (simSz hs) (simDen hs) _ (fun x j p q v=>rc_sim u t hs (simDen hs) x j p q v) l v hr
  ·cases h
 ·split at h
  ·rename_i hk;have:=nbe hk;subst this;injection h with h;subst h;exact fun _ _ _ _ hr=>hr
  ·cases h
 ·cases h
theorem ofV_imp:∀ {t:Ty} {l:List SC} {v:Den t},ofV t l=some v→ImpL (l.map SC.pv) ((enc t v).map PV.sh)
 | .int k,l,v,h=>by
  unfold ofV at h;split at h
  ·split at h
   ·rename_i hk;injection h with h;subst h;rw [← kindB_ok hk];exact ⟨fun _ _ _ _ hr=>hr,trivial⟩
   ·cases h
  ·cases h
 | .bool,l,v,h=>by
  unfold ofV at h;split at h
  ·injection h with h;subst h;exact ⟨fun _ _ _ _ hr=>hr,trivial⟩
  ·cases h
 | .str,l,v,h=>by
  unfold ofV at h;split at h
  ·injection h with h;subst h;exact ⟨fun _ _ _ _ hr=>hr,trivial⟩
  ·cases h
 | .sl t,l,v,h=>by
  unfold ofV at h;split at h
  ·exact ⟨ofV1_imp h,trivial⟩
  ·cases h
 | .vw t,l,v,h=>by
  unfold ofV at h;split at h
  ·exact ⟨ofV1_imp h,trivial⟩
  ·cases h
 | .pr a b,l,v,h=>by
  unfold ofV at h;split at h
  ·rename_i x h1;split at h
   ·rename_i y h2;injection h with h;subst h;rw [spl_eq] at h1 h2;have e1:=ofV_imp h1;have e2:=ofV_imp h2;have:=e1.append e2;rw [← List.map_append,←List.map_append,List.take_append_drop] at this;exact this
   ·cases h
  ·cases h
theorem ImpL.toR {t:Ty} {ps qs:List PV} (h:ImpL ps qs) (hl:qs.length=t.sz):ImpR (mkR1 t ps) (mkR1 t qs):=by
 intro w M X u hr;have hagg:∀ xs:List Value,RCs w M X ps xs []→RCs w M X qs xs []:=by
  intro xs hx;refine RCs.of_nofp (by rw [← h.len];exact hx.1) fun j q v hq hv => ?_
  obtain ⟨p,hp,hi⟩:=h.get hq;exact hi w M X v (hx.get_nofp j p v hp hv)
 have hone:∀ p q,ps=[p]→qs=[q]→R1R w M X (.one p) u []→R1R w M X (.one q) u []:=by
  rintro p q rfl rfl hr;exact h.1 w M X u hr
 cases t with
 | pr a b =>
  obtain ⟨xs,rfl,hx⟩:=hr;exact ⟨xs,rfl,hagg xs hx⟩
 | _ =>
  all_goals
   match qs,hl with
   | [q],_ =>
    match ps,h.len with
    | [p],_=>exact hone p q rfl rfl hr
inductive PM where
 | v (t:Ty)
 | o (t:Ty) (m:List Bool:=[])
 | w (t:Ty)
 | rp (t:Ty)
 | f (a r:Ty)
 | k (f:FuncId)
 | rq (t:Ty)
structure Clo (P:Program) (a r:Ty) where
 f:FuncId
 m:List PV
 p:Den a→Option (Den r)
def CloOk {P:Program} {a r:Ty} (q:Clo P a r):Prop :=
 (∀ z∈q.m,NoRef z∧z.frz=true)∧∀ x y,q.p x=some y→Con P q.f (.v (mkR1 a ((enc a x).map PV.sh))::q.m.map fun q=>.v (.one q)) [mkR1 r (enc r y)]
@[reducible] def DenM (P:Program):PM→Type
 | .v t=>Den t
 | .o t _=>Den t
 | .w t=>Den t
 | .rp t=>Den t
 | .f a r=>Clo P a r
 | .k _=>Unit
 | .rq t=>Den t
@[reducible] def DenMs (P:Program):List PM→Type
 | []=>Unit
 | [m]=>DenM P m
 | m::m'::ms=>DenM P m×DenMs P (m'::ms)
@[reducible] def DenOs:List Ty→Type
 | []=>Unit
 | [t]=>Den t
 | t::u::ts=>Den t×DenOs (u::ts)
abbrev SD:=Σ t:Ty,Den t
abbrev SM (P:Program):=Σ m:PM,DenM P m
def outL:(ts:List Ty)→DenOs ts→List SD
 | [],_=>[]
 | [t],v=>[⟨t,v⟩]
 | t::u::ts,v=>⟨t,v.1⟩::outL (u::ts) v.2
def inL (P:Program):(ms:List PM)→DenMs P ms→List (SM P)
 | [],_=>[]
 | [m],v=>[⟨m,v⟩]
 | m::m'::ms,v=>⟨m,v.1⟩::inL P (m'::ms) v.2
def consM (P:Program) (m:PM) (x:DenM P m):(ms:List PM)→DenMs P ms→DenMs P (m::ms)
 | [],_=>x
 | _::_,xs=>(x,xs)
theorem inL_consM (P:Program) (m:PM) (x:DenM P m) (ms:List PM) (xs:DenMs P ms):inL P (m::ms) (consM P m x ms xs)=⟨m,x⟩::inL P ms xs:=by
 cases ms<;>rfl
def SMOk {P:Program}:List (SM P)→Prop
 | []=>True
 | ⟨.f _ _,q⟩::l=>CloOk q∧SMOk l
 | _::l=>SMOk l
def winT:List PM→List Ty
 | []=>[]
 | .w t::r=>t::winT r
 | _::r=>winT r
def resR (w:SD):R1:=mkR1 w.1 (enc w.1 w.2)
def maskP:List Bool→List PV→List PV
 | true::m,_::l=>.un::maskP m l
 | false::m,c::l=>c::maskP m l
 | _,l=>l
def maskT:List Bool→List TC→List TC
 | true::m,_::l=>.un::maskT m l
 | false::m,c::l=>c::maskT m l
 | _,l=>l
theorem maskP_len:∀ (m:List Bool) (l:List PV),(maskP m l).length=l.length
 | true::m,_::l=>by simp [maskP,maskP_len m l]
 | false::m,_::l=>by simp [maskP,maskP_len m l]
 | [],l=>by cases l<;>rfl
 | b::m,[]=>by cases b<;>rfl
theorem maskT_pv:∀ (m:List Bool) (l:List TC),(maskT m l).map TC.pv=maskP m (l.map TC.pv)
 | true::m,_::l=>by simp [maskP,maskT,maskT_pv m l,TC.pv]
 | false::m,_::l=>by simp [maskP,maskT,maskT_pv m l]
 | [],l=>by cases l<;>rfl
 | b::m,[]=>by cases b<;>rfl
theorem maskP_mem:∀ {m:List Bool} {l:List PV} {p:PV},p∈maskP m l→p∈l∨p=.un
 | true::m,c::l,p,h=>by
  rcases List.mem_cons.1 h with h|h
  ·exact .inr h
  ·exact (maskP_mem h).imp (fun k=>by simp [k]) id
 | false::m,c::l,p,h=>by
  rcases List.mem_cons.1 h with h|h
  ·exact .inl (by simp [h])
  ·exact (maskP_mem h).imp (fun k=>by simp [k]) id
 | [],l,p,h=>by cases l<;>exact .inl h
 | b::m,[],p,h=>by cases b<;>exact .inl h
theorem maskT_mem:∀ {m:List Bool} {l:List TC} {p:TC},p∈maskT m l→p∈l∨p=.un
 | true::m,c::l,p,h=>by
  rcases List.mem_cons.1 h with h|h
  ·exact .inr h
  ·exact (maskT_mem h).imp (fun k=>by simp [k]) id
 | false::m,c::l,p,h=>by
  rcases List.mem_cons.1 h with h|h
  ·exact .inl (by simp [h])
  ·exact (maskT_mem h).imp (fun k=>by simp [k]) id
 | [],l,p,h=>by cases l<;>exact .inl h
 | b::m,[],p,h=>by cases b<;>exact .inl h
def argsL {P:Program}:List (SM P)→List SD→List Arg
 | [],_=>[]
 | ⟨.v t,x⟩::r,wl=>.v (mkR1 t ((enc t x).map PV.sh))::argsL r wl
 | ⟨.o t m,x⟩::r,wl=>.o (mkR1 t (maskP m (enc t x)))::argsL r wl
 | ⟨.w t,x⟩::r,wl=>.w (enc t x) (match wl with|w::_=>enc w.1 w.2|[]=>[])::argsL r wl.tail
 | ⟨.rp t,x⟩::r,wl=>.v (.one (.rp (enc t x) 0))::argsL r wl
 | ⟨.f a r',q⟩::r,wl=>.v (.one (.fn q.f q.m))::argsL r wl
 | ⟨.k f,_⟩::r,wl=>.v (.one (.fn f []))::argsL r wl
 | ⟨.rq t,x⟩::r,wl=>.v (.one (.rp [.rp (enc t x) 0] 0))::argsL r wl
structure Sig where
 ms:List PM
 rs:List Ty
 box:Bool
@[reducible] def Sig.outs (s:Sig):List Ty:=s.rs++winT s.ms
def ConE (P:Program) (id:FuncId) (s:Sig) (x:DenMs P s.ms) (l:List SD):Prop :=
 match s.box with
 | false=>Con P id (argsL (inL P s.ms x) (l.drop s.rs.length)) ((l.take s.rs.length).map resR)
 | true=>ConB P id (argsL (inL P s.ms x) []) (l.flatMap fun w=>enc w.1 w.2)
structure Ent (P:Program) (s:Sig) where
 id:FuncId
 f:DenMs P s.ms→Option (DenOs s.outs)
 ok:∀ x y,SMOk (inL P s.ms x)→f x=some y→ConE P id s x (outL s.outs y)
inductive ICd where
 | skip
 | reg (ops:List (AOp×Option Ty)) (lv:List Nat)
 | dreg (ord:List (List Nat)) (ops:List (AOp×Option Ty)) (lv:List Nat)
 | seq (x y:ICd)
 | cond (c:Ix) (x y:ICd)
 | block (i:Nat) (x:ICd)
 | loop (x:ICd)
 | exit (i:Nat)
 | ret
 | bad
def ICd.ac:ICd→AC
 | .skip=>.skip
 | .reg ops _=>.reg (ops.map (·.1))
 | .dreg ord ops _=>.dreg ord (ops.map (·.1))
 | .seq x y=>.seq x.ac y.ac
 | .cond c x y=>.cond c x.ac y.ac
 | .block i x=>.block i x.ac
 | .loop x=>.loop x.ac
 | .exit i=>.exit i
 | .ret=>.ret
 | .bad=>.bad
structure InE (P:Program) where
 id:FuncId
 n:Nat
 code:ICd
 rs:List Rk
 ok : ∃ fn c rv, P.funcs[id]? = some fn ∧ (fn.name == "runtime.NumGoroutine") = false ∧ fn.body = some c ∧ fn.results = rv.toArray ∧ cRess P rv = some rs ∧ fn.ntmps = n ∧ cCode P n c = code.ac
structure AEnt (P:Program) where
 s:Sig
 e:Ent P s
 d:Option Nat:=none
 inl:Option (InE P):=none
def okD:Option Nat→Option Nat→Bool
 | none,_=>true
 | some a,some b=>Nat.beq a b
 | some _,none=>false
def findE {P:Program}:List (AEnt P)→FuncId→Option Nat→Option (AEnt P)
 | [],_,_=>none
 | E::r,f,d=>match Nat.beq E.e.id f with
  | true=>match okD E.d d with
   | true=>some E
   | false=>findE r f d
  | false=>findE r f d
def findI {P:Program}:List (AEnt P)→FuncId→Option Nat→Option (InE P)
 | [],_,_=>none
 | E::r,f,d=>match E.inl with
  | some I=>match Nat.beq I.id f,okD E.d d with
   | true,true=>some I
   | _,_=>findI r f d
  | none=>findI r f d
theorem findI_ok {P:Program}:∀ {l:List (AEnt P)} {f:FuncId} {d:Option Nat} {I:InE P},findI l f d=some I→I.id=f
 | [],f,d,I,h=>by cases h
 | E0::r,f,d,I,h=>by
  unfold findI at h;split at h
  ·split at h
   ·rename_i hb _;injection h with h;subst h;exact nbe hb
   ·exact findI_ok h
  ·exact findI_ok h
theorem findE_ok {P:Program}:∀ {l:List (AEnt P)} {f:FuncId} {d:Option Nat} {E:AEnt P},findE l f d=some E→E.e.id=f
 | [],f,d,E,h=>by cases h
 | E0::r,f,d,E,h=>by
  unfold findE at h;split at h
  ·rename_i hb;split at h
   ·injection h with h;subst h;exact nbe hb
   ·exact findE_ok h
  ·exact findE_ok h
def asD (t u:Ty) (x:Den t):Option (Den u) :=
 match Ty.eq t u with
 | some ⟨h⟩=>some (h▸x)
 | none=>none
theorem asD_ok {t u:Ty} {x:Den t} {y:Den u} (h:asD t u x=some y):t=u∧enc t x=enc u y:=by
 unfold asD at h;split at h
 ·rename_i e _;subst e;injection h with h;subst h;exact ⟨rfl,rfl⟩
 ·cases h
def asOut (r:Ty):List SD→Option (Den r)
 | [w]=>asD w.1 r w.2
 | _=>none
def capP {P:Program}:SM P→Option PV
 | ⟨.v t,x⟩=>match t.agg with
  | false=>some (((enc t x).map PV.sh).headD .un)
  | true=>none
 | ⟨.rp t,x⟩=>some (.rp (enc t x) 0)
 | ⟨.rq t,x⟩=>some (.rp [.rp (enc t x) 0] 0)
 | _=>none
def capPs {P:Program}:List (SM P)→Option (List PV)
 | []=>some []
 | x::r=>match capP x,capPs r with
  | some p,some l=>some (p::l)
  | _,_=>none
theorem enc_sh_nr (t:Ty) (x:Den t):∀ p∈(enc t x).map PV.sh,NoRef p:=by
 intro p hp;obtain ⟨q,hq,rfl⟩:=List.mem_map.1 hp;exact (enc_nr t x q hq).sh
theorem enc_frz:∀ (t:Ty) (x:Den t),∀ p∈(enc t x).map PV.sh,p.frz=true
 | .int _,_,p,h=>by simp only [enc,List.map_cons,List.map_nil,List.mem_singleton] at h;subst h;rfl
 | .bool,_,p,h=>by simp only [enc,List.map_cons,List.map_nil,List.mem_singleton] at h;subst h;rfl
 | .str,_,p,h=>by simp only [enc,List.map_cons,List.map_nil,List.mem_singleton] at h;subst h;rfl
 | .sl t,l,p,h=>by simp only [enc,List.map_cons,List.map_nil,List.mem_singleton] at h;subst h;rfl
 | .vw t,l,p,h=>by simp only [enc,List.map_cons,List.map_nil,List.mem_singleton] at h;subst h;rfl
 | .pr a b,v,p,h=>by
  simp only [enc,List.map_append,lma] at h;exact h.elim (enc_frz a v.1 p) (enc_frz b v.2 p)
theorem mkR1_one {t:Ty} (h:t.agg=false) (l:List PV):mkR1 t l=.one (l.headD .un):=by
 cases t<;>first|rfl|cases h
theorem capPs_ok {P:Program}:∀ {l:List (SM P)} {m:List PV},capPs l=some m→(∀ q∈m,NoRef q∧q.frz=true)∧∀ wl,argsL l wl=m.map fun q=>.v (.one q)
 | [],m,h=>by injection h with h;subst h;exact ⟨by simp,fun _=>rfl⟩
 | x::r,m,h=>by
  unfold capPs at h;split at h
  ·rename_i p l hp hl;injection h with h;subst h;obtain ⟨k1,k2⟩:=capPs_ok hl;obtain ⟨pm,x⟩:=x;unfold capP at hp;split at hp
   ·rename_i t x e;split at hp
    ·rename_i ha;injection hp with hp;subst hp;injection e with e1 e2;subst e1;cases e2;have hlen:=enc_len t x;obtain ⟨q,hq⟩:∃ q,(enc t x).map PV.sh=[q]:=by
      have h1:t.sz=1:=by cases t<;>first|rfl|cases ha
      have:((enc t x).map PV.sh).length=1:=by simp [hlen,h1]
      exact List.length_eq_one_iff.1 this
     refine ⟨fun p hp => ?_,fun wl => ?_⟩
     ·rcases List.mem_cons.1 hp with rfl|hp
      ·rw [hq];exact ⟨enc_sh_nr t x q (by rw [hq];simp),enc_frz t x q (by rw [hq];simp)⟩
      ·exact k1 p hp
     ·simp only [argsL,List.map_cons,k2 wl,mkR1_one ha]
    ·cases hp
   ·rename_i t x e;injection hp with hp;subst hp;injection e with e1 e2;subst e1;cases e2;refine ⟨fun p hp => ?_,fun wl => ?_⟩
    ·rcases List.mem_cons.1 hp with rfl|hp
     ·exact ⟨.rp (enc_nr t x),rfl⟩
     ·exact k1 p hp
    ·simp only [argsL,List.map_cons,k2 wl]
   ·rename_i t x e;injection hp with hp;subst hp;injection e with e1 e2;subst e1;cases e2;refine ⟨fun p hp => ?_,fun wl => ?_⟩
    ·rcases List.mem_cons.1 hp with rfl|hp
     ·exact ⟨.rp fun q hq=>by
       have:q=.rp (enc t x) 0:=by simpa using hq
       subst this;exact .rp (enc_nr t x),rfl⟩
     ·exact k1 p hp
    ·simp only [argsL,List.map_cons,k2 wl]
   ·cases hp
  ·cases h
def cloOf {P:Program} {a r:Ty} {cm:List PM} (E:Ent P ⟨.v a::cm,[r],false⟩) (cv:DenMs P cm):Clo P a r where
 f:=E.id
 m:=match capPs (inL P cm cv) with
  | some m=>m
  | none=>[]
 p:=fun x=>match capPs (inL P cm cv) with
  | some _=>bd (E.f (consM P (.v a) x cm cv)) fun y=>asOut r (outL _ y)
  | none=>none
theorem cloOf_ok {P:Program} {a r:Ty} {cm:List PM} (E:Ent P ⟨.v a::cm,[r],false⟩) (cv:DenMs P cm) (hs:SMOk (inL P cm cv)):CloOk (cloOf E cv) where
 left:=by
  intro q hq;simp only [cloOf] at hq;split at hq
  ·rename_i m hm;exact (capPs_ok hm).1 q hq
  ·cases hq
 right:=by
  intro x y h;have h:(match capPs (inL P cm cv) with
   | some _=>bd (E.f (consM P (.v a) x cm cv)) fun y=>asOut r (outL _ y)
   | none=>none)=some y:=h
  split at h
  ·rename_i m hm;have e1:(cloOf E cv).m=m:=by simp only [cloOf,hm]
   rw [e1];show Con P E.id _ _;obtain ⟨z,hz,h⟩:=bd_some h;have:=E.ok _ _ (by rw [inL_consM];exact hs) hz;unfold asOut at h;split at h
   ·rename_i w e;obtain ⟨e1,e2⟩:=asD_ok h;simp only [ConE,inL_consM,e,argsL] at this;rw [(capPs_ok hm).2] at this;have e3:resR w=mkR1 r (enc r y):=by unfold resR;rw [e2];cases e1;rfl
    simpa [e3] using this
   ·cases h
  ·cases h
def viewC (τ:TSt):TC→Option (SC×List Nat)
 | .c (.sl o t l)=>match o with
  | false=>some (.sl false t l,[])
  | true=>none
 | .c (.nl _ k)=>some (.nl false k,[])
 | .c x=>some (x,[])
 | .ref id v n=>match tbAt τ.h id with
  | .nb v' k=>match Nat.beq v v' with
   | true=>some (.nl false k,[id])
   | false=>none
  | tb=>match elTy tb with
   | some t=>match whole t tb with
    | some (v',l)=>match Nat.beq v v' with
     | true=>some (.sl false t l,[id])
     | false=>none
    | none=>none
   | none=>none
 | .part id v lo len n=>match tbAt τ.h id with
  | .sl t v' l=>match Nat.beq v v' with
   | true=>some (.sl false t ((l.drop lo).take len),[id])
   | false=>none
  | _=>none
 | _=>none
def viewL (τ:TSt):List TC→Option (List SC×List Nat)
 | []=>some ([],[])
 | c::r=>match viewC τ c with
  | some (x,i)=>match viewL τ r with
   | some (xs,is)=>some (x::xs,i++is)
   | none=>none
  | none=>none
def ownC (τ:TSt):TC→Option (SC×List Nat)
 | .c x=>some (x,[])
 | .ref id v n=>match tbAt τ.h id with
  | .nb v' k=>match Nat.beq v v' with
   | true=>some (.nl true k,[id])
   | false=>none
  | tb=>match elTy tb with
   | some t=>match whole t tb with
    | some (v',l)=>match Nat.beq v v' with
     | true=>some (.sl true t l,[id])
     | false=>none
    | none=>none
   | none=>none
 | _=>none
def ownL (τ:TSt):List TC→Option (List SC×List Nat)
 | []=>some ([],[])
 | c::r=>match ownC τ c with
  | some (x,i)=>match ownL τ r with
   | some (xs,is)=>some (x::xs,i++is)
   | none=>none
  | none=>none
def viewR (τ:TSt):TC→Option (SC×List Nat)
 | .c x=>some (x.sh,[])
 | c=>viewC τ c
def viewRL (τ:TSt):List TC→Option (List SC×List Nat)
 | []=>some ([],[])
 | c::r=>match viewR τ c with
  | some (x,i)=>match viewRL τ r with
   | some (xs,is)=>some (x::xs,i++is)
   | none=>none
  | none=>none
def Ty.vwf:Ty→List Bool
 | .vw _=>[true]
 | .pr a b=>a.vwf++b.vwf
 | _=>[false]
def mixC (τ:TSt) (f:Bool) (c:TC):Option (SC×List Nat×List Nat):=match f with
 | false=>match ownC τ c with
  | some (x,i)=>some (x,i,[])
  | none=>none
 | true=>match c with
  | .c (.nl true _)=>none
  | c=>match viewC τ c with
   | some (x,l)=>some (x,[],l)
   | none=>none
def mixL (τ:TSt):List Bool→List TC→Option (List SC×List Nat×List Nat)
 | [],[]=>some ([],[],[])
 | f::fs,c::cs=>match mixC τ f c with
  | some (x,i,l)=>match mixL τ fs cs with
   | some (xs,is,ls)=>some (x::xs,i++is,l++ls)
   | none=>none
  | none=>none
 | _,_=>none
def mixM (τ:TSt):List Bool→List Bool→List TC→Option (List SC×List Nat×List Nat)
 | f::fs,true::ms,c::cs=>match viewC τ c with
  | some (x,_)=>match mixM τ fs ms cs with
   | some (xs,is,ls)=>some (x::xs,is,ls)
   | none=>none
  | none=>none
 | f::fs,false::ms,c::cs=>match mixC τ f c with
  | some (x,i,l)=>match mixM τ fs ms cs with
   | some (xs,is,ls)=>some (x::xs,i++is,l++ls)
   | none=>none
  | none=>none
 | fs,_,cs=>mixL τ fs cs
def cellsR (t:Ty):TV→Option (List TC)
 | .r (.agg l)=>match t.agg with
  | true=>some l
  | false=>none
 | .r (.one c)=>match t.agg with
  | true=>none
  | false=>some [c]
 | _=>none
def rowAt (τ:TSt):TC→Option (List TC×Nat×Nat)
 | .vp id j=>match tbAt τ.h id with
  | .var _ cs=>some (cs,id,j)
  | _=>none
 | .hp id v _ _ j=>match tbAt τ.h id with
  | .hole _ _ hv _ _ row _ _=>match Nat.beq v hv with
   | true=>some (row,id,j)
   | false=>none
  | _=>none
 | _=>none
def setRow (j:Nat) (ys:List TC):TB→TB
 | .var w cs=>.var w (splice cs j ys)
 | .hole t v hv y pre row post _=>.hole t v hv y pre (splice row j ys) post none
 | tb=>tb
structure AI where
 ln:List Nat
 tk:List Nat
 wi:List (Nat×Nat)
def capVs {P:Program}:(cm:List PM)→List (List SC×Option Nat)→Option (DenMs P cm)
 | [],[]=>some ()
 | m::ms,c::r=>match (match m,c with
   | .v t,([x],none)=>ofC false t [x]
   | .rp t,(l,some 0)=>ofC true t l
   | _,_=>none:Option (DenM P m)) with
  | some x=>match capVs ms r with
   | some xs=>some (consM P m x ms xs)
   | none=>none
  | none=>none
 | _,_=>none
def cap1 {P:Program} (τ:TSt):(m:PM)→CapT→Option (DenM P m×List Nat)
 | .v t,.sc [x] none=>match ofC false t [x] with
  | some v=>some (v,[])
  | none=>none
 | .rp t,.sc l (some 0)=>match ofC true t l with
  | some v=>some (v,[])
  | none=>none
 | .rp t,.vp id 0=>match tbAt τ.h id with
  | .var _ cs=>match viewRL τ cs with
   | some (xs,ln)=>match ofV t xs with
    | some v=>some (v,id::ln)
    | none=>none
   | none=>none
  | _=>none
 | .rq t,.vp id 0=>match tbAt τ.h id with
  | .var _ [.vp id' 0]=>match tbAt τ.h id' with
   | .var _ cs=>match viewRL τ cs with
    | some (xs,ln)=>match ofV t xs with
     | some v=>some (v,id::(id'::ln++[]))
     | none=>none
    | none=>none
   | _=>none
  | _=>none
 | _,_=>none
def capQs {P:Program} (τ:TSt):(cm:List PM)→List CapT→Option (DenMs P cm×List Nat)
 | [],[]=>some ((),[])
 | m::ms,c::r=>match cap1 τ m c with
  | some (x,l)=>match capQs τ ms r with
   | some (xs,l')=>some (consM P m x ms xs,l++l')
   | none=>none
  | none=>none
 | _,_=>none
def bind1 {P:Program} (τ:TSt) (tab:List (AEnt P)):(m:PM)→TV→Option (DenM P m×AI)
 | .v t,v=>match cellsR t v with
  | some cs=>match viewL τ cs with
   | some (xs,ln)=>match ofV t xs with
    | some x=>some (x,⟨ln,[],[]⟩)
    | none=>none
   | none=>none
  | none=>none
 | .o t m,v=>match cellsR t v with
  | some cs=>match mixM τ t.vwf m cs with
   | some (xs,tk,ln)=>match ofC true t xs with
    | some x=>some (x,⟨ln,tk,[]⟩)
    | none=>none
   | none=>none
  | none=>none
 | .w t,v=>match v with
  | .r (.one c)=>match rowAt τ c with
   | some (cs,id,j)=>match Nat.ble (j+t.sz) cs.length,Nat.ble 1 t.sz,toSC ((cs.drop j).take t.sz) with
    | true,true,some xs=>match ofC true t xs with
     | some x=>some (x,⟨[],[],[(id,j)]⟩)
     | none=>none
    | _,_,_=>none
   | none=>none
  | _=>none
 | .rp t,v=>match v with
  | .r (.one (.rp l 0))=>match ofC true t l with
   | some x=>some (x,⟨[],[],[]⟩)
   | none=>none
  | _=>none
 | .f a r,v=>match v with
  | .r (.one (.fn f caps))=>match findE tab f none with
   | some ⟨⟨.v a'::cm,[r'],false⟩,E,_,_⟩=>match Ty.eq a' a,Ty.eq r' r,capVs cm caps with
    | some ⟨h1⟩,some ⟨h2⟩,some cv=>match h1,h2 with
     | rfl,rfl=>some (cloOf E cv,⟨[],[],[]⟩)
    | _,_,_=>none
   | _=>none
  | .r (.one (.fv f m a' r' p))=>match Ty.eq a' a,Ty.eq r' r with
   | some ⟨h1⟩,some ⟨h2⟩=>match h1,h2 with
    | rfl,rfl=>some (⟨f,m,p⟩,⟨[],[],[]⟩)
   | _,_=>none
  | .r (.one (.fq f caps))=>match findE tab f none with
   | some ⟨⟨.v a'::cm,[r'],false⟩,E,_,_⟩=>match Ty.eq a' a,Ty.eq r' r,capQs τ cm caps with
    | some ⟨h1⟩,some ⟨h2⟩,some (cv,ln)=>match h1,h2 with
     | rfl,rfl=>some (cloOf E cv,⟨ln,[],[]⟩)
    | _,_,_=>none
   | _=>none
  | _=>none
 | .k f,v=>match v with
  | .r (.one (.fn f' []))=>match Nat.beq f f' with
   | true=>some ((),⟨[],[],[]⟩)
   | false=>none
  | _=>none
 | .rq _,_=>none
def bindA {P:Program} (τ:TSt) (tab:List (AEnt P)):(ms:List PM)→List TV→Option (DenMs P ms×AI)
 | [],[]=>some ((),⟨[],[],[]⟩)
 | m::ms,v::vs=>match bind1 τ tab m v with
  | some (x,a)=>match bindA τ tab ms vs with
   | some (xs,b)=>some (consM P m x ms xs,⟨a.ln++b.ln,a.tk++b.tk,a.wi++b.wi⟩)
   | none=>none
  | none=>none
 | _,_=>none
def winWr (τ:TSt):List (Nat×Nat)→List SD→List (Nat×TB)
 | (id,j)::r,w::ws=>(id,setRow j ((cells w.1 w.2).map .c) (tbAt τ.h id))::winWr τ r ws
 | _,_=>[]
section
variable {P:Program} {τ:TSt} {n b:Nat} {tab:List (AEnt P)} {c:TC} {x:SC} {l i:List Nat} {K:List Nat→Prop}
theorem wholeB (hI:Inv P τ) {id:Nat} {t:Ty} {v:Nat} {l:List (Den t)} (hw:whole t (tbAt τ.h id)=some (v,l)):(img n τ).slot id=.live ⟨0,t.sz,[],l.map (enc t)⟩∧vlen (tbAt τ.h id)=some (v,l.length):=by
 obtain ⟨w1,w2⟩:=whole_ok (hI.blks id) hw;exact ⟨by rw [img_slot,w1],w2⟩
theorem viewC_ok (hI:Inv P τ) (hc:cok P τ.h τ.g c) (h:viewC τ c=some (x,l)) (k:K l):vwP (img n τ) c.pv x.pv K:=by
 unfold viewC at h;split at h
 ·split at h
  ·simp only [osi,Prod.mk.injEq] at h;obtain ⟨rfl,rfl⟩:=h;exact ⟨rfl,k⟩
  ·cases h
 ·rename_i o k0;simp only [osi,Prod.mk.injEq] at h;obtain ⟨rfl,rfl⟩:=h;cases o
  ·exact ⟨rfl,k⟩
  ·exact ⟨⟨_,rfl⟩,k⟩
 ·rename_i y h1 h2;simp only [osi,Prod.mk.injEq] at h;obtain ⟨rfl,rfl⟩:=h;cases y with
  | sl o t l=>exact (h1 _ _ _ rfl).elim
  | nl o k=>exact (h2 _ _ rfl).elim
  | _=>exact ⟨rfl,k⟩
 ·rename_i id v m;split at h
  ·rename_i v' k' hB;split at h
   ·rename_i hv;obtain rfl:=nbe hv;simp only [osi,Prod.mk.injEq] at h;obtain ⟨rfl,rfl⟩:=h;have hm:m=0:=hc.2 _ (by rw [hB];rfl);subst hm;have hs:(img n τ).slot id=.live ⟨0,k',[],[]⟩:=by rw [img_slot,hB];rfl
    simp only [TC.pv,SC.pv,vwP,vc,hs];simp only [List.length_nil,if_true,List.drop_nil,List.take_nil];exact ⟨trivial,k⟩
   ·cases h
  ·split at h
   ·rename_i t ht;split at h
    ·rename_i v' l0 hw;split at h
     ·rename_i hv;obtain rfl:=nbe hv;simp only [osi,Prod.mk.injEq] at h;obtain ⟨rfl,rfl⟩:=h;obtain ⟨hs,hl⟩:=wholeB (n:=n) hI hw;have hm:m=l0.length:=hc.2 _ hl;subst hm;simp only [TC.pv,SC.pv,vwP,vc,hs];simp only [List.length_map,if_true,List.drop_zero];rw [List.take_of_length_le (by simp)];exact ⟨rfl,k⟩
     ·cases h
    ·cases h
   ·cases h
 ·rename_i id v lo len m;split at h
  ·rename_i t v' l0 hB;split at h
   ·rename_i hv;obtain rfl:=nbe hv;simp only [osi,Prod.mk.injEq] at h;obtain ⟨rfl,rfl⟩:=h;have hm:m=l0.length:=hc.1.2 _ (by rw [hB];rfl);subst hm;have hs:(img n τ).slot id=.live ⟨0,t.sz,[],l0.map (enc t)⟩:=by rw [img_slot,hB];rfl
    simp only [TC.pv,SC.pv,vwP,vc,hs];simp only [List.length_map,if_true,←List.map_drop,←List.map_take];exact ⟨trivial,k⟩
   ·cases h
  ·cases h
 ·cases h
theorem viewL_ok (hI:Inv P τ):∀ {cs:List TC} {xs:List SC} {l:List Nat} {K:List Nat→Prop},(∀ c∈cs,cok P τ.h τ.g c)→viewL τ cs=some (xs,l)→K l→vwL (img n τ) (cs.map TC.pv) (xs.map SC.pv) K
 | [],xs,l,K,hc,h,k=>by
  simp only [viewL,osi,Prod.mk.injEq] at h;obtain ⟨rfl,rfl⟩:=h;exact k
 | c::cs,xs,l,K,hc,h,k=>by
  simp only [viewL] at h;split at h
  ·rename_i x i hx;split at h
   ·rename_i xs' is hxs;simp only [osi,Prod.mk.injEq] at h;obtain ⟨rfl,rfl⟩:=h;exact viewC_ok hI (hc c (by simp)) hx (viewL_ok hI (K:=fun l'=>K (i++l')) (fun c hcc=>hc c (by simp [hcc])) hxs k)
   ·cases h
  ·cases h
theorem ownC_ok (hI:Inv P τ) (hc:cok P τ.h τ.g c) (h:ownC τ c=some (x,l)):takeP (img n τ) c.pv=some (x.pv,l):=by
 unfold ownC at h;split at h
 ·rename_i y;simp only [osi,Prod.mk.injEq] at h;obtain ⟨rfl,rfl⟩:=h;cases y<;>rfl
 ·rename_i id v m;split at h
  ·rename_i v' k' hB;split at h
   ·rename_i hv;obtain rfl:=nbe hv;simp only [osi,Prod.mk.injEq] at h;obtain ⟨rfl,rfl⟩:=h;have hm:m=0:=hc.2 _ (by rw [hB];rfl);subst hm;have hs:(img n τ).slot id=.live ⟨0,k',[],[]⟩:=by rw [img_slot,hB];rfl
    simp [TC.pv,SC.pv,takeP,hs]
   ·cases h
  ·split at h
   ·rename_i t ht;split at h
    ·rename_i v' l0 hw;split at h
     ·rename_i hv;obtain rfl:=nbe hv;simp only [osi,Prod.mk.injEq] at h;obtain ⟨rfl,rfl⟩:=h;obtain ⟨hs,hl⟩:=wholeB (n:=n) hI hw;have hm:m=l0.length:=hc.2 _ hl;subst hm;simp [TC.pv,SC.pv,takeP,hs]
     ·cases h
    ·cases h
   ·cases h
 ·cases h
theorem ownL_ok (hI:Inv P τ):∀ {cs:List TC} {xs:List SC} {l:List Nat},(∀ c∈cs,cok P τ.h τ.g c)→ownL τ cs=some (xs,l)→takeL (img n τ) (cs.map TC.pv)=some (xs.map SC.pv,l)
 | [],xs,l,hc,h=>by
  simp only [ownL,osi,Prod.mk.injEq] at h;obtain ⟨rfl,rfl⟩:=h;rfl
 | c::cs,xs,l,hc,h=>by
  simp only [ownL] at h;split at h
  ·rename_i x i hx;split at h
   ·rename_i xs' is hxs;simp only [osi,Prod.mk.injEq] at h;obtain ⟨rfl,rfl⟩:=h;simp only [List.map_cons,takeL,ownC_ok hI (hc c (by simp)) hx,ownL_ok hI (fun c hcc=>hc c (by simp [hcc])) hxs]
   ·cases h
  ·cases h
theorem viewC_vc (hI:Inv P τ) (hc:cok P τ.h τ.g c) (hx:∀ k,c≠.c (.nl true k)) (h:viewC τ c=some (x,l)):vc (img n τ) c.pv=some (x.pv,l)∧x.pv.sh=x.pv:=by
 have hw:=viewC_ok (n:=n) (K:=(·=l)) hI hc h rfl;have hs:x.pv.sh=x.pv:=by
  unfold viewC at h;split at h
  ·split at h
   ·simp only [osi,Prod.mk.injEq] at h;obtain ⟨rfl,rfl⟩:=h;rfl
   ·cases h
  ·simp only [osi,Prod.mk.injEq] at h;obtain ⟨rfl,rfl⟩:=h;rfl
  ·rename_i y h1 h2;simp only [osi,Prod.mk.injEq] at h;obtain ⟨rfl,rfl⟩:=h;cases y with
   | sl o t l=>exact (h1 _ _ _ rfl).elim
   | nl o k=>exact (h2 _ _ rfl).elim
   | _=>rfl
  ·split at h
   ·split at h
    ·simp only [osi,Prod.mk.injEq] at h;obtain ⟨rfl,rfl⟩:=h;rfl
    ·cases h
   ·split at h
    ·split at h
     ·split at h
      ·simp only [osi,Prod.mk.injEq] at h;obtain ⟨rfl,rfl⟩:=h;rfl
      ·cases h
     ·cases h
    ·cases h
  ·split at h
   ·split at h
    ·simp only [osi,Prod.mk.injEq] at h;obtain ⟨rfl,rfl⟩:=h;rfl
    ·cases h
   ·cases h
  ·cases h
 refine ⟨?_,hs⟩;cases c with
 | c y =>
  cases y with
  | sl o t m =>
   cases o with
   | true=>simp [viewC] at h
   | false=>simp only [viewC,osi,Prod.mk.injEq] at h;obtain ⟨rfl,rfl⟩:=h;rfl
  | nl o k =>
   cases o with
   | true=>exact (hx k rfl).elim
   | false=>simp only [viewC,osi,Prod.mk.injEq] at h;obtain ⟨rfl,rfl⟩:=h;rfl
  | i k m=>simp only [viewC,osi,Prod.mk.injEq] at h;obtain ⟨rfl,rfl⟩:=h;rfl
  | b k=>simp only [viewC,osi,Prod.mk.injEq] at h;obtain ⟨rfl,rfl⟩:=h;rfl
  | s k=>simp only [viewC,osi,Prod.mk.injEq] at h;obtain ⟨rfl,rfl⟩:=h;rfl
  | np=>simp only [viewC,osi,Prod.mk.injEq] at h;obtain ⟨rfl,rfl⟩:=h;rfl
 | ref id v m =>
  simp only [TC.pv,vwP] at hw ⊢;split at hw
  ·rename_i x' l' e;obtain ⟨rfl,rfl⟩:=hw;exact e
  ·exact hw.elim
 | part id v lo len m =>
  simp only [TC.pv,vwP] at hw ⊢;split at hw
  ·rename_i x' l' e;obtain ⟨rfl,rfl⟩:=hw;exact e
  ·exact hw.elim
 | fq f l=>simp [viewC] at h
 | rq l=>simp [viewC] at h
 | vp=>simp [viewC] at h
 | hp=>simp [viewC] at h
 | rp=>simp [viewC] at h
 | fn=>simp [viewC] at h
 | fv=>simp [viewC] at h
 | un=>simp [viewC] at h
theorem mixL_ok (hI:Inv P τ):∀ {fs:List Bool} {cs:List TC} {xs:List SC} {i l:List Nat},(∀ c∈cs,cok P τ.h τ.g c)→mixL τ fs cs=some (xs,i,l)→Mix (img n τ) (cs.map TC.pv) (xs.map SC.pv) i l
 | [],[],xs,i,l,hc,h=>by
  simp only [mixL,osi,Prod.mk.injEq] at h;obtain ⟨rfl,rfl,rfl⟩:=h;exact .nil
 | [],_::_,xs,i,l,hc,h=>by simp [mixL] at h
 | _::_,[],xs,i,l,hc,h=>by simp [mixL] at h
 | f::fs,c::cs,xs,i,l,hc,h=>by
  simp only [mixL] at h;split at h
  ·rename_i x i1 l1 h1;split at h
   ·rename_i xs' i2 l2 h2;simp only [osi,Prod.mk.injEq] at h;obtain ⟨rfl,rfl,rfl⟩:=h;have ht:=mixL_ok hI (fun c hcc=>hc c (by simp [hcc])) h2;cases f with
    | false =>
     simp only [mixC] at h1;split at h1
     ·rename_i y j hy;simp only [osi,Prod.mk.injEq] at h1;obtain ⟨rfl,rfl,rfl⟩:=h1;exact .tk (ownC_ok hI (hc c (by simp)) hy) ht
     ·cases h1
    | true =>
     simp only [mixC] at h1;split at h1
     ·cases h1
     ·rename_i hne;split at h1
      ·rename_i y j hy;simp only [osi,Prod.mk.injEq] at h1;obtain ⟨rfl,rfl,rfl⟩:=h1;obtain ⟨e1,e2⟩:=viewC_vc (n:=n) hI (hc c (by simp)) (fun k e=>hne k e) hy;exact .vw e1 e2 ht
      ·cases h1
   ·cases h
  ·cases h
theorem mixM_ok (hI:Inv P τ):∀ {fs ms:List Bool} {cs:List TC} {xs:List SC} {i l:List Nat},(∀ c∈cs,cok P τ.h τ.g c)→mixM τ fs ms cs=some (xs,i,l)→Mix (img n τ) (cs.map TC.pv) (maskP ms (xs.map SC.pv)) i l:=by
 intro fs;induction fs with
 | nil =>
  intro ms cs xs i l hc h;simp only [mixM] at h;have:=mixL_ok (n:=n) hI hc h;cases cs with
  | nil =>
   simp only [mixL,osi,Prod.mk.injEq] at h;obtain ⟨rfl,rfl,rfl⟩:=h;cases ms with
   | nil=>exact this
   | cons b m=>cases b<;>exact this
  | cons c cs=>simp [mixL] at h
 | cons f fs ih =>
  intro ms cs xs i l hc h;cases cs with
  | nil =>
   cases ms with
   | nil=>simp [mixM,mixL] at h
   | cons b m=>cases b<;>simp [mixM,mixL] at h
  | cons c cs =>
   cases ms with
   | nil =>
    simp only [mixM] at h;have:=mixL_ok (n:=n) hI hc h;cases xs<;>exact this
   | cons b m =>
    cases b with
    | true =>
     simp only [mixM] at h;split at h
     ·split at h
      ·rename_i xs' i2 l2 h2;simp only [osi,Prod.mk.injEq] at h;obtain ⟨rfl,rfl,rfl⟩:=h;exact .ig (ih (fun c hcc=>hc c (by simp [hcc])) h2)
      ·cases h
     ·cases h
    | false =>
     simp only [mixM] at h;split at h
     ·rename_i x i1 l1 h1;split at h
      ·rename_i xs' i2 l2 h2;simp only [osi,Prod.mk.injEq] at h;obtain ⟨rfl,rfl,rfl⟩:=h;have ht:=ih (fun c hcc=>hc c (by simp [hcc])) h2;have h0:mixL τ [f] [c]=some ([x],i1,l1):=by simp [mixL,h1]
       have h3:=mixL_ok (n:=n) hI (fun z hz=>hc z (by simp at hz;simp [hz])) h0;simp only [List.map_cons,List.map_nil] at h3 ⊢;have hx:x.pv≠.un:=by cases x<;>simp [SC.pv]
       generalize x.pv=q at h3 hx ⊢;cases h3 with
       | tk a t0=>cases t0;simpa [maskP] using Mix.tk a ht
       | vw a b t0=>cases t0;simpa [maskP] using Mix.vw a b ht
       | ig t0=>exact (hx rfl).elim
      ·cases h
     ·cases h
theorem cellsR_ok {t:Ty} {v:TV} {cs:List TC} (h:cellsR t v=some cs):(v=.r (.agg cs)∧t.agg=true)∨∃ c,v=.r (.one c)∧t.agg=false∧cs=[c]:=by
 unfold cellsR at h;split at h
 ·split at h
  ·rename_i ha;injection h with h;subst h;exact .inl ⟨rfl,ha⟩
  ·cases h
 ·split at h
  ·cases h
  ·rename_i ha;injection h with h;subst h;exact .inr ⟨_,rfl,ha,rfl⟩
 ·cases h
theorem mkR1_agg {t:Ty} (h:t.agg=true) (l:List PV):mkR1 t l=.agg l:=by
 cases t<;>first|rfl|cases h
theorem ofC_len {o:Bool} {t:Ty} {l:List SC} {v:Den t} (h:ofC o t l=some v):l.length=t.sz:=by
 have:=congrArg List.length (ofC_ok h);simpa [enc_len] using this
theorem shoF:sho false=PV.sh:=by funext p;rfl
theorem set_row {j:Nat} {ys:List TC} {cs:List TC} {id:Nat} (hc:cok P τ.h τ.g c) (h:rowAt τ c=some (cs,id,j)) :
  ∃ B full e,c.pv=.ptr id full e j∧(img n τ).slot id=.live B∧B.l.length=full∧B.l[e]? = some (cs.map TC.pv)∧(ys.length+j≤cs.length→(setRow j ys (tbAt τ.h id)).slot=.live { B with l:=B.l.set e (splice (cs.map TC.pv) j (ys.map TC.pv)) }):=by
 unfold rowAt at h;split at h
 ·rename_i id' j';split at h
  ·rename_i w cs' hB;simp only [osi,Prod.mk.injEq] at h;obtain ⟨rfl,rfl,rfl⟩:=h;refine ⟨⟨if w then 2 else 1,cs'.length,[],[cs'.map TC.pv]⟩,1,0,rfl,by rw [img_slot,hB];rfl,rfl,rfl,fun hl => ?_⟩;rw [hB];simp only [setRow,TB.slot,splice_map];rw [splice_len (by omega)];rfl
  ·cases h
 ·rename_i id' v m e' j';split at h
  ·rename_i t v0 hv y pre row post memo hB;split at h
   ·rename_i hvv;obtain rfl:=nbe hvv;simp only [osi,Prod.mk.injEq] at h;obtain ⟨rfl,rfl,rfl⟩:=h;obtain ⟨rfl,rfl⟩:m=pre.length+1+post.length∧e'=pre.length:=hc.2 _ _ (by rw [hB];rfl);refine ⟨⟨0,t.sz,[],pre.map (enc t)++row.map TC.pv::post.map (enc t)⟩,_,_,rfl,by rw [img_slot,hB];rfl,hole_len,hole_get,fun hl => ?_⟩;rw [hB];simp only [setRow,TB.slot,splice_map,hole_set]
   ·cases h
  ·cases h
 ·cases h
theorem sz_pos:∀ (t:Ty),0<t.sz
 | .int _=>Nat.one_pos
 | .bool=>Nat.one_pos
 | .str=>Nat.one_pos
 | .sl _=>Nat.one_pos
 | .vw _=>Nat.one_pos
 | .pr a b=>Nat.add_pos_left (sz_pos a) _
theorem agg_of_one {t:Ty} (h:t.sz=1):t.agg=false:=by
 cases t with
 | pr a b=>have h1:=sz_pos a;have h2:=sz_pos b;have:a.sz+b.sz=1:=h;omega
 | _=>rfl
theorem capVs_ok:∀ {cm:List PM} {l:List (List SC×Option Nat)} {cv:DenMs P cm},capVs cm l=some cv→capPs (inL P cm cv)=some (l.map capPV)
 | [],[],cv,h=>rfl
 | [],c::l,cv,h=>by simp [capVs] at h
 | m::ms,[],cv,h=>by simp [capVs] at h
 | m::ms,c::r,cv,h=>by
  simp only [capVs] at h;split at h
  ·rename_i x hx;split at h
   ·rename_i xs hxs;injection h with h;subst h;rw [inL_consM];simp only [capPs,capVs_ok hxs,List.map_cons];have:capP (P:=P) ⟨m,x⟩=some (capPV c):=by
     split at hx
     ·rename_i t z;have h1:=ofC_len hx;have ha:=agg_of_one (by simpa using h1.symm);have h2:=ofC_ok hx;rw [shoF] at h2;simp only [capP,ha,←h2];rfl
     ·rename_i t l;have h2:=ofC_ok hx;rw [sho_t] at h2;simp only [capP,capPV,h2]
     ·cases hx
    rw [this]
   ·cases h
  ·cases h
theorem bindV_ok (hI:Inv P τ) {t:Ty} {v:TV} {cs:List TC} {ys:List SC} {ln:List Nat} {y:Den t} (hv:∀ c∈v.cs,cok P τ.h τ.g c) (hcs:cellsR t v=some cs) (hys:viewL τ cs=some (ys,ln)) (hy:ofV t ys=some y)
  {vs:List RV} {args:List Arg} {Q:List Nat→List Nat→List (Nat×Slot)→Prop} (k':callPrep (img n τ) vs args fun tk ln' wr=>Q tk (ln++ln') wr):callPrep (img n τ) (v.rv::vs) (.v (mkR1 t ((enc t y).map PV.sh))::args) Q:=by
 have e:=ofV_imp hy;have hnr:=enc_sh_nr t y;have hlen:((enc t y).map PV.sh).length=t.sz:=by simp [enc_len]
 have hlen2:(ys.map SC.pv).length=t.sz:=by rw [e.len,hlen]
 have hnr2:∀ p∈(mkR1 t (ys.map SC.pv)).cs,NoRef p:=by rw [mkR1_cs _ _ hlen2];exact nr_map
 refine ⟨by rw [mkR1_cs _ _ hlen];exact hnr,?_⟩;rcases cellsR_ok hcs with ⟨rfl,ha⟩|⟨c,rfl,ha,rfl⟩
 ·refine ⟨mkR1 t (ys.map SC.pv),hnr2,e.toR hlen,?_⟩;rw [mkR1_agg ha];exact viewL_ok hI hv hys k'
 ·refine ⟨mkR1 t (ys.map SC.pv),hnr2,e.toR hlen,?_⟩;rw [mkR1_one ha];have:=viewL_ok (n:=n) hI hv hys (K:=fun l=>callPrep (img n τ) vs args fun tk ln' wr=>Q tk (l++ln') wr) k';obtain ⟨z,rfl⟩:∃ z,ys=[z]:=by
   have:t.sz=1:=by cases t<;>first|rfl|cases ha
   exact List.length_eq_one_iff.1 (by simpa [this] using hlen2)
  have this:vwP (img n τ) c.pv z.pv fun l=>callPrep (img n τ) vs args fun tk ln' wr=>Q tk (l++[]++ln') wr:=this
  simp only [List.append_nil] at this;exact .inl this
def tailW (m:PM) (wl:List SD):List SD:=match m with
 | .w _=>wl.tail
 | _=>wl
theorem vwP_frz {σ:St} {p:PV} (h:p.frz=true) {K:List Nat→Prop} (hk:K []):vwP σ p p K:=by
 cases p with
 | vs o k l=>cases o with
  | false=>exact ⟨rfl,hk⟩
  | true=>cases h
 | ref=>cases h
 | ptr=>cases h
 | tok=>cases h
 | un=>cases h
 | _=>exact ⟨rfl,hk⟩
theorem viewR_ok (hI:Inv P τ) (hc:cok P τ.h τ.g c) (h:viewR τ c=some (x,l)):∃ p,vc (img n τ) c.pv=some (p,l)∧NoRef p∧p.sh=x.pv:=by
 have key:(∀ y,c≠.c y)→viewC τ c=some (x,l)→∃ p,vc (img n τ) c.pv=some (p,l)∧NoRef p∧p.sh=x.pv:=fun h0 h=>by
  obtain ⟨e1,e2⟩:=viewC_vc (n:=n) hI hc (fun k=>h0 _) h;exact ⟨_,e1,x.nr,e2⟩
 cases c with
 | c y =>
  simp only [viewR,osi,Prod.mk.injEq] at h;obtain ⟨rfl,rfl⟩:=h;refine ⟨y.pv,by cases y<;>rfl,y.nr,(SC.sh_pv y).symm⟩
 | _=>exact key (by simp) h
theorem viewRL_ok (hI:Inv P τ):∀ {cs:List TC} {xs:List SC} {l:List Nat},(∀ c∈cs,cok P τ.h τ.g c)→viewRL τ cs=some (xs,l)→∃ ps,vcL (img n τ) (cs.map TC.pv)=some (ps,l)∧(∀ p∈ps,NoRef p)∧ps.map PV.sh=xs.map SC.pv
 | [],xs,l,hc,h=>by
  simp only [viewRL,osi,Prod.mk.injEq] at h;obtain ⟨rfl,rfl⟩:=h;exact ⟨[],rfl,by simp,rfl⟩
 | c::cs,xs,l,hc,h=>by
  simp only [viewRL] at h;split at h
  ·rename_i x i hx;split at h
   ·rename_i xs' is hxs;simp only [osi,Prod.mk.injEq] at h;obtain ⟨rfl,rfl⟩:=h;obtain ⟨p,e1,e2,e3⟩:=viewR_ok (n:=n) hI (hc c (by simp)) hx;obtain ⟨ps,k1,k2,k3⟩:=viewRL_ok hI (fun c' h'=>hc c' (by simp [h'])) hxs;refine ⟨p::ps,by simp only [List.map_cons,vcL,e1,k1],fun q hq => ?_,by simp [e3,k3]⟩;rcases List.mem_cons.1 hq with rfl|hq
    ·exact e2
    ·exact k2 q hq
   ·cases h
  ·cases h
theorem rp_imp {ps qs:List PV} {j:Nat} (h:ImpL (ps.map PV.sh) (qs.map PV.sh)):ImpP (.rp ps j) (.rp qs j):=by
 intro w M X v hr;have hlen:=h.len;simp only [List.length_map] at hlen;cases hr with
 | @rp _ _ ad xs hl hx hc =>
  refine .rp (by omega) hx fun i q u hq hu => ?_
  obtain ⟨p,k1,k2⟩:=h.get (j:=i) (q:=q.sh) (by rw [List.getElem?_map,hq];rfl);rw [List.getElem?_map] at k1;cases hp:ps[i]? with
  | none=>rw [hp] at k1;cases k1
  | some p0 =>
   rw [hp] at k1;simp only [Option.map_some,osi] at k1;subst k1;exact k2 _ _ _ _ (hc i p0 u hp hu)
theorem fn_imp {f:FuncId} {ps qs:List PV} (h:ImpL ps qs):ImpR (.one (.fn f ps)) (.one (.fn f qs)):=by
 intro w M X v hr;have hlen:=h.len;have hr:RC w M X (.fn f ps) v []:=hr;show RC w M X (.fn f qs) v [];cases hr with
 | @fn _ _ xs hl hc =>
  refine .fn (by omega) fun i q u hq hu => ?_
  obtain ⟨p,k1,k2⟩:=h.get hq;exact k2 _ _ _ _ (hc i p u k1 hu)
theorem vcL1_of {σ:St}:∀ {ps qs:List PV} {l:List Nat},vcL σ ps=some (qs,l)→vcL1 σ ps=some (qs,l)
 | [],_,_,h=>h
 | p::ps,qs,l,h=>by
  simp only [vcL] at h;split at h
  ·rename_i q i qs' is h1 h2;have e:vc1 σ p=some (q,i):=by
    cases p with
    | ptr=>simp [vc] at h1
    | _=>exact h1
   simp only [vcL1,e,vcL1_of h2];exact h
  ·cases h
theorem row_view (hI:Inv P τ) {id:Nat} {wn:Bool} {cs:List TC} (hB:tbAt τ.h id=.var wn cs) {t:Ty} {xs:List SC} {ln:List Nat} {v:Den t} (hxs:viewRL τ cs=some (xs,ln)) (hv:ofV t xs=some v) :
  ∃ ps,vcL (img n τ) (cs.map TC.pv)=some (ps,ln)∧(∀ p∈ps,NoRef p)∧ImpP (.rp ps 0) (.rp (enc t v) 0)∧(img n τ).slot id=.live ⟨if wn then 2 else 1,cs.length,[],[cs.map TC.pv]⟩:=by
 have hb:=hI.blks id;rw [hB] at hb;obtain ⟨ps,k1,k2,k3⟩:=viewRL_ok (n:=n) hI hb hxs;refine ⟨ps,k1,k2,rp_imp ?_,by rw [img_slot,hB];rfl⟩;rw [k3];exact ofV_imp hv
theorem cap1_ok (hI:Inv P τ) {m:PM} {c:CapT} {x:DenM P m} {l:List Nat} (h:cap1 τ m c=some (x,l)):∃ p q,capP (P:=P) ⟨m,x⟩=some p∧NoRef q∧ImpP q p∧∀ K:List Nat→Prop,K l→vwQ (img n τ) c.pv q K:=by
 have frz:∀ (q:PV),NoRef q→q.frz=true→c.pv=q→l=[]→capP (P:=P) ⟨m,x⟩=some q→∃ p q,capP (P:=P) ⟨m,x⟩=some p∧NoRef q∧ImpP q p∧∀ K:List Nat→Prop,K l→vwQ (img n τ) c.pv q K:=by
  intro q hn hf hc hl hp;refine ⟨q,q,hp,hn,fun _ _ _ _ h=>h,fun K hk => ?_⟩;rw [hc];subst hl;have:=vwP_frz (σ:=img n τ) hf hk;cases q with
  | ptr=>cases hf
  | _=>exact this
 unfold cap1 at h;split at h
 ·rename_i t y;split at h
  ·rename_i v hv;simp only [osi,Prod.mk.injEq] at h;obtain ⟨rfl,rfl⟩:=h;have h1:=ofC_len hv;have ha:=agg_of_one (by simpa using h1.symm);have h2:=ofC_ok hv;rw [shoF] at h2;refine frz y.pv y.nr ?_ rfl rfl (by simp only [capP,ha,←h2];rfl);exact enc_frz t v _ (by rw [← h2];simp)
  ·cases h
 ·rename_i t y;split at h
  ·rename_i v hv;simp only [osi,Prod.mk.injEq] at h;obtain ⟨rfl,rfl⟩:=h;have h2:=ofC_ok hv;rw [sho_t] at h2;refine frz (.rp (enc t v) 0) (.rp (enc_nr t v)) rfl ?_ rfl rfl;simp only [CapT.pv,capPV,h2]
  ·cases h
 ·rename_i t id;split at h
  ·rename_i wn cs hB;split at h
   ·rename_i xs ln hxs;split at h
    ·rename_i v hv;simp only [osi,Prod.mk.injEq] at h;obtain ⟨rfl,rfl⟩:=h;obtain ⟨ps,k1,k2,k3,k4⟩:=row_view (n:=n) hI hB hxs hv;refine ⟨.rp (enc t v) 0,.rp ps 0,rfl,.rp k2,k3,fun K hk => ?_⟩;simp only [CapT.pv,vwQ,k4];refine ⟨rfl,cs.map TC.pv,rfl,?_⟩;rw [vcL1_of k1];exact ⟨rfl,hk⟩
    ·cases h
   ·cases h
  ·cases h
 ·rename_i t id;split at h
  ·rename_i wn id' hB;split at h
   ·rename_i wn' cs hB';split at h
    ·rename_i xs ln hxs;split at h
     ·rename_i v hv;simp only [osi,Prod.mk.injEq] at h;obtain ⟨rfl,rfl⟩:=h;obtain ⟨ps,k1,k2,k3,k4⟩:=row_view (n:=n) hI hB' hxs hv;refine ⟨.rp [.rp (enc t v) 0] 0,.rp [.rp ps 0] 0,rfl,.rp fun q hq => ?_,rp_imp ⟨k3,trivial⟩,fun K hk => ?_⟩
      ·have:q=.rp ps 0:=by simpa using hq
       subst this;exact .rp k2
      ·have hs:(img n τ).slot id=.live ⟨if wn then 2 else 1,1,[],[[.ptr id' 1 0 0]]⟩:=by rw [img_slot,hB];rfl
       simp only [CapT.pv,vwQ,hs];refine ⟨rfl,[.ptr id' 1 0 0],rfl,?_⟩;have e:vcL1 (img n τ) [.ptr id' 1 0 0]=some ([.rp ps 0],id'::ln++[]):=by
        simp only [vcL1,vc1,k4];simp [k1]
       rw [e];exact ⟨rfl,hk⟩
     ·cases h
    ·cases h
   ·cases h
  ·cases h
 ·cases h
theorem capQs_ok (hI:Inv P τ):∀ {cm:List PM} {cl:List CapT} {cv:DenMs P cm} {ln:List Nat},capQs τ cm cl=some (cv,ln)→∃ m qs,capPs (inL P cm cv)=some m∧(∀ q∈qs,NoRef q)∧ImpL qs m∧∀ K:List Nat→Prop,K ln→vwQL (img n τ) (cl.map CapT.pv) qs K
 | [],[],cv,ln,h=>by
  simp only [capQs,osi,Prod.mk.injEq] at h;obtain ⟨_,rfl⟩:=h;exact ⟨[],[],rfl,by simp,trivial,fun K hk=>hk⟩
 | [],c::l,cv,ln,h=>by simp [capQs] at h
 | m::ms,[],cv,ln,h=>by simp [capQs] at h
 | m::ms,c::r,cv,ln,h=>by
  simp only [capQs] at h;split at h
  ·rename_i x l hx;split at h
   ·rename_i xs l' hxs;simp only [osi,Prod.mk.injEq] at h;obtain ⟨rfl,rfl⟩:=h;obtain ⟨p,q,e1,e2,e3,e4⟩:=cap1_ok (n:=n) hI hx;obtain ⟨mm,qs,k1,k2,k3,k4⟩:=capQs_ok hI hxs;rw [inL_consM];refine ⟨p::mm,q::qs,by simp only [capPs,e1,k1],fun z hz => ?_,⟨e3,k3⟩,fun K hk => ?_⟩
    ·rcases List.mem_cons.1 hz with rfl|hz
     ·exact e2
     ·exact k2 z hz
    ·exact e4 _ (k4 _ hk)
   ·cases h
  ·cases h
theorem capQs_sm:∀ {cm:List PM} {l:List CapT} {cv:DenMs P cm} {ln:List Nat},capQs τ cm l=some (cv,ln)→SMOk (inL P cm cv)
 | [],[],cv,ln,h=>trivial
 | [],c::l,cv,ln,h=>by simp [capQs] at h
 | m::ms,[],cv,ln,h=>by simp [capQs] at h
 | m::ms,c::r,cv,ln,h=>by
  simp only [capQs] at h;split at h
  ·rename_i x l hx;split at h
   ·rename_i xs l' hxs;simp only [osi,Prod.mk.injEq] at h;obtain ⟨rfl,rfl⟩:=h;rw [inL_consM];have:=capQs_sm hxs;cases m with
    | f a r=>simp [cap1] at hx
    | _=>exact this
   ·cases h
  ·cases h
theorem bind1_ok (hI:Inv P τ) {m:PM} {v:TV} {x:DenM P m} {a:AI} (hv:∀ c∈v.cs,cok P τ.h τ.g c) (h:bind1 τ tab m v=some (x,a)) {ms:List PM} {xs:DenMs P ms} {vs:List RV} {wl:List SD} {Q:List Nat→List Nat→List (Nat×Slot)→Prop} (hw:∀ t,m=.w t→∃ w r,wl=w::r∧w.1=t)
  (k:callPrep (img n τ) vs (argsL (inL P ms xs) (tailW m wl)) fun tk ln wr=>Q (a.tk++tk) (a.ln++ln) ((winWr τ a.wi wl).map wsl++wr)) :
  callPrep (img n τ) (v.rv::vs) (argsL (⟨m,x⟩::inL P ms xs) wl) Q:=by
 cases m with
 | v t =>
  simp only [bind1] at h;split at h
  ·rename_i cs hcs;split at h
   ·rename_i ys ln hys;split at h
    ·rename_i y hy;simp only [osi,Prod.mk.injEq] at h;obtain ⟨rfl,rfl⟩:=h;have k':callPrep (img n τ) vs (argsL (inL P ms xs) wl) fun tk ln' wr=>Q tk (ln++ln') wr:=by simpa [winWr,tailW] using k
     exact bindV_ok hI hv hcs hys hy k'
    ·cases h
   ·cases h
  ·cases h
 | o t mk =>
  simp only [bind1] at h;split at h
  ·rename_i cs hcs;split at h
   ·rename_i ys tk ln hys;split at h
    ·rename_i y hy;simp only [osi,Prod.mk.injEq] at h;obtain ⟨rfl,rfl⟩:=h;have e:=ofC_ok hy;rw [sho_t] at e;have hlen:=enc_len t y;have k':callPrep (img n τ) vs (argsL (inL P ms xs) wl) fun tk' ln' wr=>Q (tk++tk') (ln++ln') wr:=by simpa [winWr,tailW] using k
     refine ⟨by
      rw [mkR1_cs _ _ (by rw [maskP_len];exact hlen)];intro p hp;rcases maskP_mem hp with hp|rfl
      ·exact enc_nr t y p hp
      ·exact .un,?_⟩
     have ht:Mix (img n τ) (cs.map TC.pv) (maskP mk (ys.map SC.pv)) tk ln:=by
      rcases cellsR_ok hcs with ⟨rfl,ha⟩|⟨c,rfl,ha,rfl⟩
      ·exact mixM_ok (n:=n) hI hv hys
      ·exact mixM_ok (n:=n) hI hv hys
     rcases cellsR_ok hcs with ⟨rfl,ha⟩|⟨c,rfl,ha,rfl⟩
     ·rw [mkR1_agg ha,←e];exact ⟨tk,ln,ht,k'⟩
     ·rw [mkR1_one ha,←e];obtain ⟨z,rfl⟩:∃ z,ys=[z]:=by
       have h1:=ofC_len hy;have:t.sz=1:=by cases t<;>first|rfl|cases ha
       exact List.length_eq_one_iff.1 (by omega)
      obtain ⟨q,hq⟩:∃ q,maskP mk ([z].map SC.pv)=[q]:=List.length_eq_one_iff.1 (by rw [maskP_len];rfl);rw [hq] at ht ⊢;exact ⟨tk,ln,ht,k'⟩
    ·cases h
   ·cases h
  ·cases h
 | w t =>
  obtain ⟨w,wl',rfl,hwt⟩:=hw t rfl;simp only [bind1] at h;split at h
  ·rename_i c;split at h
   ·rename_i cs id j hrow;split at h
    ·rename_i ys h1 h2 h3;have h1:=Nat.le_of_ble_eq_true h1;have h2:=Nat.le_of_ble_eq_true h2;split at h
     ·rename_i y hy;simp only [osi,Prod.mk.injEq] at h;obtain ⟨rfl,rfl⟩:=h;have hc:=hv c (by simp [TV.cs,TR.cs]);have hwl:((cells w.1 w.2).map TC.c).length=t.sz:=by simp [cells_len,hwt]
      obtain ⟨B,full,e,e1,e2,e3,e4,e5⟩:=set_row (n:=n) (ys:=(cells w.1 w.2).map TC.c) hc hrow;have e6:=e5 (by omega);have hpv:((cells w.1 w.2).map TC.c).map TC.pv=enc w.1 w.2:=by rw [List.map_map,←cells_pv];rfl
      rw [hpv] at e6;refine ⟨enc_nr t y,?_⟩;simp only [TV.rv,TR.r1,RV.one1,e1,e2];refine ⟨e3,cs.map TC.pv,e4,?_,by rw [enc_len];omega,by simpa [enc_len] using h1,?_⟩
      ·rw [enc_len,←List.map_drop,←List.map_take];exact toV_ok h3 hy
      ·have k':callPrep (img n τ) vs (argsL (inL P ms xs) wl') fun tk ln wr=>Q tk ln ((id,(setRow j ((cells w.1 w.2).map TC.c) (tbAt τ.h id)).slot)::wr):=by simpa [winWr,wsl,tailW] using k
       rw [e6] at k';exact k'
     ·cases h
    ·cases h
   ·cases h
  ·cases h
 | rp t =>
  simp only [bind1] at h;split at h
  ·rename_i l;split at h
   ·rename_i y hy;simp only [osi,Prod.mk.injEq] at h;obtain ⟨rfl,rfl⟩:=h;have e:=ofC_ok hy;rw [sho_t] at e;have k':callPrep (img n τ) vs (argsL (inL P ms xs) wl) fun tk ln wr=>Q tk ln wr:=by simpa [winWr,tailW] using k
    have hnr:∀ p∈(R1.one (PV.rp (enc t y) 0)).cs,NoRef p:=by
     intro p hp;have:p=.rp (enc t y) 0:=by simpa [R1.cs] using hp
     subst this;exact .rp (enc_nr t y)
    refine ⟨hnr,.one (.rp (enc t y) 0),hnr,ImpR.refl _,?_⟩;simp only [TR.r1,TC.pv,e,vwR,vwP,vc];exact .inl ⟨trivial,k'⟩
   ·cases h
  ·cases h
 | rq t=>simp [bind1] at h
 | k f =>
  simp only [bind1] at h;split at h
  ·rename_i f';split at h
   ·rename_i hf;have hf:=nbe hf;subst hf;simp only [osi,Prod.mk.injEq] at h;obtain ⟨_,rfl⟩:=h;have k':callPrep (img n τ) vs (argsL (inL P ms xs) wl) fun tk ln wr=>Q tk ln wr:=by simpa [winWr,tailW] using k
    have hnr:∀ p∈(R1.one (PV.fn f [])).cs,NoRef p:=by
     intro p hp;have:p=.fn f []:=by simpa [R1.cs] using hp
     subst this;exact .fn (by simp)
    refine ⟨hnr,.one (.fn f []),hnr,ImpR.refl _,?_⟩;simp only [TR.r1,TC.pv,List.map_nil,vwR,vwP,vc];exact .inl ⟨trivial,k'⟩
   ·cases h
  ·cases h
 | f a r =>
  simp only [bind1] at h;split at h
  ·rename_i f caps;split at h
   ·rename_i a' cm r' E _ _ hE;split at h
    ·rename_i h1 h2 cv _ _ hcv;subst h1 h2;simp only [osi,Prod.mk.injEq] at h;obtain ⟨rfl,rfl⟩:=h;have hid:=findE_ok hE;have hcp:=capVs_ok hcv;have hm:(cloOf E cv).m=caps.map capPV:=by simp only [cloOf,hcp]
     have hf:(cloOf E cv).f=f:=hid;have k':callPrep (img n τ) vs (argsL (inL P ms xs) wl) fun tk ln wr=>Q tk ln wr:=by simpa [winWr,tailW] using k
     have hnr:∀ p∈(R1.one (PV.fn (cloOf E cv).f (cloOf E cv).m)).cs,NoRef p:=by
      intro p hp;have:p=.fn f (caps.map capPV):=by simpa [R1.cs,hm,hf] using hp
      subst this;refine .fn fun q hq => ?_
      obtain ⟨z,_,rfl⟩:=List.mem_map.1 hq;exact capPV_nr z
     refine ⟨hnr,_,hnr,ImpR.refl _,?_⟩;simp only [TR.r1,TC.pv,vwR,vwP,vc,hm,hf];exact .inl ⟨trivial,k'⟩
    ·cases h
   ·cases h
  ·rename_i f m a' r' p;split at h
   ·rename_i h1 h2 _ _;subst h1 h2;simp only [osi,Prod.mk.injEq] at h;obtain ⟨rfl,rfl⟩:=h;have hck:(∀ z∈m,NoRef z∧z.frz=true)∧_:=hv (.fv f m a' r' p) (by simp [TV.cs,TR.cs]);have k':callPrep (img n τ) vs (argsL (inL P ms xs) wl) fun tk ln wr=>Q tk ln wr:=by simpa [winWr,tailW] using k
    have hnr:∀ q∈(R1.one (PV.fn f m)).cs,NoRef q:=by
     intro q hq;have:q=.fn f m:=by simpa [R1.cs] using hq
     subst this;exact .fn fun z hz=>(hck.1 z hz).1
    refine ⟨hnr,_,hnr,ImpR.refl _,?_⟩;simp only [TR.r1,TC.pv,vwR,vwP,vc];exact .inl ⟨trivial,k'⟩
   ·cases h
  ·rename_i f caps;split at h
   ·rename_i a' cm r' E _ _ hE;split at h
    ·rename_i h1 h2 cv ln _ _ hcv;subst h1 h2;simp only [osi,Prod.mk.injEq] at h;obtain ⟨rfl,rfl⟩:=h;have hid:=findE_ok hE;obtain ⟨m,qs,hcp,hqn,him,hvw⟩:=capQs_ok (n:=n) hI hcv;have hm:(cloOf E cv).m=m:=by simp only [cloOf,hcp]
     have hf:(cloOf E cv).f=f:=hid;have k':callPrep (img n τ) vs (argsL (inL P ms xs) wl) fun tk ln' wr=>Q tk (ln++ln') wr:=by simpa [winWr,tailW] using k
     have hmn:=(capPs_ok hcp).1;refine ⟨fun p hp => ?_,.one (.fn f qs),fun p hp => ?_,by rw [hm,hf];exact fn_imp him,?_⟩
     ·have:p=.fn f m:=by simpa [R1.cs,hm,hf] using hp
      subst this;exact .fn fun q hq=>(hmn q hq).1
     ·have:p=.fn f qs:=by simpa [R1.cs] using hp
      subst this;exact .fn hqn
     ·exact .inr ⟨f,_,qs,rfl,rfl,hvw _ k'⟩
    ·cases h
   ·cases h
  ·cases h
theorem capVs_sm:∀ {cm:List PM} {l:List (List SC×Option Nat)} {cv:DenMs P cm},capVs cm l=some cv→SMOk (inL P cm cv)
 | [],[],cv,h=>trivial
 | [],c::l,cv,h=>by simp [capVs] at h
 | m::ms,[],cv,h=>by simp [capVs] at h
 | m::ms,c::r,cv,h=>by
  simp only [capVs] at h;split at h
  ·rename_i x hx;split at h
   ·rename_i xs hxs;injection h with h;subst h;rw [inL_consM];have:=capVs_sm hxs;split at hx
    ·exact this
    ·exact this
    ·cases hx
   ·cases h
  ·cases h
theorem bind1_sm {m:PM} {v:TV} {x:DenM P m} {a:AI} (hv:∀ c∈v.cs,cok P τ.h τ.g c) (h:bind1 τ tab m v=some (x,a)) {l:List (SM P)} (k:SMOk l):SMOk (⟨m,x⟩::l):=by
 cases m with
 | f a r =>
  simp only [bind1] at h;split at h
  ·rename_i f caps;split at h
   ·rename_i a' cm r' E _ _ hE;split at h
    ·rename_i h1 h2 cv _ _ hcv;subst h1 h2;simp only [osi,Prod.mk.injEq] at h;obtain ⟨rfl,rfl⟩:=h;exact ⟨cloOf_ok E cv (capVs_sm hcv),k⟩
    ·cases h
   ·cases h
  ·rename_i f m a' r' p;split at h
   ·rename_i h1 h2 _ _;subst h1 h2;simp only [osi,Prod.mk.injEq] at h;obtain ⟨rfl,rfl⟩:=h;exact ⟨hv (.fv f m a' r' p) (by simp [TV.cs,TR.cs]),k⟩
   ·cases h
  ·rename_i f caps;split at h
   ·rename_i a' cm r' E _ _ hE;split at h
    ·rename_i h1 h2 cv ln _ _ hcv;subst h1 h2;simp only [osi,Prod.mk.injEq] at h;obtain ⟨rfl,rfl⟩:=h;exact ⟨cloOf_ok E cv (capQs_sm hcv),k⟩
    ·cases h
   ·cases h
  ·cases h
 | _=>exact k
theorem bindA_sm:∀ {ms:List PM} {vs:List TV} {x:DenMs P ms} {a:AI},(∀ v∈vs,∀ c∈v.cs,cok P τ.h τ.g c)→bindA τ tab ms vs=some (x,a)→SMOk (inL P ms x)
 | [],[],x,a,hv,h=>trivial
 | m::ms,v::vs,x,a,hv,h=>by
  simp only [bindA] at h;split at h
  ·rename_i x1 a1 h1;split at h
   ·rename_i xs b1 h2;simp only [osi,Prod.mk.injEq] at h;obtain ⟨rfl,rfl⟩:=h;rw [inL_consM];exact bind1_sm (hv v (by simp)) h1 (bindA_sm (fun v hv'=>hv v (by simp [hv'])) h2)
   ·cases h
  ·cases h
 | [],_::_,x,a,hv,h=>by simp [bindA] at h
 | _::_,[],x,a,hv,h=>by simp [bindA] at h
end
def memB (x:Nat):List Nat→Bool
 | []=>false
 | y::r=>Nat.beq x y||memB x r
def nodupB:List Nat→Bool
 | []=>true
 | x::r => !memB x r&&nodupB r
def disjB:List Nat→List Nat→Bool
 | [],_=>true
 | x::r,l => !memB x l&&disjB r l
def liveB:TB→Bool
 | .var _ _=>true
 | .nb _ _=>true
 | .sl _ _ _=>true
 | .hole .. => true
 | _=>false
def allLive (h:List TB):List Nat→Bool
 | []=>true
 | i::r=>liveB (tbAt h i)&&allLive h r
def fsts:List (Nat×Nat)→List Nat
 | []=>[]
 | (i,_)::r=>i::fsts r
def idsOk (τ:TSt) (a:AI):Bool :=
 nodupB a.tk&&nodupB (fsts a.wi)&&disjB a.tk (fsts a.wi)&&disjB a.ln a.tk&&disjB a.ln (fsts a.wi)&&allLive τ.h a.ln&&allLive τ.h a.tk&&allLive τ.h (fsts a.wi)
def tdeads:List Nat→List (Nat×TB)
 | []=>[]
 | i::r=>(i,.dead)::tdeads r
def thawTs (g:Nat):Nat→List SD→List TR×List (Nat×TB)
 | _,[]=>([],[])
 | b,w::r =>
  let z:=tthaw g b ((cells w.1 w.2).map .c)
  ((match w.1.agg with|true=>.agg z.1|false=>.one (z.1.headD .un))::(thawTs g (b+z.2.length) r).1,z.2++(thawTs g (b+z.2.length) r).2)
def resTV:List TR→TV
 | [y]=>.r y
 | l=>.tup l
def isNil {α:Type}:List α→Bool
 | []=>true
 | _=>false
def allVm:List PM→Bool
 | []=>true
 | .v _::r=>allVm r
 | .rp _::r=>allVm r
 | .f _ _::r=>allVm r
 | .k _::r=>allVm r
 | .rq _::r=>allVm r
 | _=>false
def ownTs:List Ty→Bool
 | []=>true
 | t::r=>t.own&&ownTs r
def callT {P:Program} (τ:TSt) (tab:List (AEnt P)) (b:Nat) (E:AEnt P) (vs:List TV) {R:Type} (K:TE→Option R):Option R :=
 match bindA τ tab E.s.ms vs with
 | some (x,a)=>match idsOk τ a&&(isNil a.ln||ownTs E.s.outs) with
  | true=>bd (E.e.f x) fun y=>match E.s.box with
   | false=>K { v:=resTV (thawTs τ.g b ((outL _ y).take E.s.rs.length)).1,wh:=winWr τ a.wi ((outL _ y).drop E.s.rs.length)++(tdeads a.tk++(thawTs τ.g b ((outL _ y).take E.s.rs.length)).2),rd:=a.ln++(a.tk++fsts a.wi),g:=τ.g+1 }
   | true=>match isNil a.ln&&isNil a.tk&&isNil a.wi&&allVm E.s.ms with
    | true=>K { v:=.r (.one (.vp b 0)),wh:=[(b,.var false (((outL _ y).flatMap fun w=>cells w.1 w.2).map .c))],g:=τ.g }
    | false=>none
  | false=>none
 | none=>none
theorem isNil_ok {α:Type} {l:List α} (h:isNil l=true):l=[]:=by cases l<;>first|rfl|cases h
theorem ownTs_ok:∀ {l:List Ty},ownTs l=true→∀ t∈l,t.own=true
 | [],_,t,h=>by cases h
 | u::r,h,t,ht=>by
  simp only [ownTs,bae] at h;rcases List.mem_cons.1 ht with rfl|ht
  ·exact h.1
  ·exact ownTs_ok h.2 t ht
theorem memB_ok:∀ {x:Nat} {l:List Nat},memB x l=false→x∉l
 | x,[],_,h=>by cases h
 | x,y::r,h,hm=>by
  simp only [memB,Bool.or_eq_false_iff] at h;rcases List.mem_cons.1 hm with rfl|hm
  ·rw [Nat.beq_refl] at h;cases h.1
  ·exact memB_ok h.2 hm
theorem nodupB_ok:∀ {l:List Nat},nodupB l=true→l.Nodup
 | [],_=>List.nodup_nil
 | x::r,h=>by
  simp only [nodupB,bae,Bool.not_eq_eq_eq_not,Bool.not_true] at h;exact List.nodup_cons.2 ⟨memB_ok h.1,nodupB_ok h.2⟩
theorem disjB_ok:∀ {l m:List Nat},disjB l m=true→∀ i∈l,i∉m
 | [],m,_,i,hi=>by cases hi
 | x::r,m,h,i,hi=>by
  simp only [disjB,bae,Bool.not_eq_eq_eq_not,Bool.not_true] at h;rcases List.mem_cons.1 hi with rfl|hi
  ·exact memB_ok h.1
  ·exact disjB_ok h.2 i hi
theorem allLive_ok {h:List TB}:∀ {l:List Nat},allLive h l=true→∀ i∈l,liveB (tbAt h i)=true
 | [],_,i,hi=>by cases hi
 | x::r,k,i,hi=>by
  simp only [allLive,bae] at k;rcases List.mem_cons.1 hi with rfl|hi
  ·exact k.1
  ·exact allLive_ok k.2 i hi
theorem outL_ty:∀ (ts:List Ty) (y:DenOs ts),(outL ts y).map (·.1)=ts
 | [],_=>rfl
 | [t],_=>rfl
 | t::u::ts,y=>by simp only [outL,List.map_cons,outL_ty (u::ts) y.2]
def WOk (P:Program) (τ:TSt):List (Nat×Nat)→List SD→Prop
 | [],[]=>True
 | (id,j)::r,w::ws=>(∃ c cs,cok P τ.h τ.g c∧rowAt τ c=some (cs,id,j)∧j+w.1.sz≤cs.length)∧WOk P τ r ws
 | _,_=>False
section
variable {P:Program} {τ:TSt} {n b:Nat} {tab:List (AEnt P)} {R:Type} {K:TE→Option R} {r:R}
theorem bind1_w (hI:Inv P τ) {m:PM} {v:TV} {x:DenM P m} {a:AI} (hv:∀ c∈v.cs,cok P τ.h τ.g c) (h:bind1 τ tab m v=some (x,a)) {r:List (Nat×Nat)} {wl:List SD} (hw:∀ t,m=.w t→∃ w r,wl=w::r∧w.1=t) (k:WOk P τ r (tailW m wl)):WOk P τ (a.wi++r) wl:=by
 cases m with
 | w t =>
  obtain ⟨w,wl',rfl,hwt⟩:=hw t rfl;simp only [bind1] at h;split at h
  ·rename_i c;split at h
   ·rename_i cs id j hrow;split at h
    ·rename_i ys h1 h2 h3;have h1:=Nat.le_of_ble_eq_true h1;split at h
     ·simp only [osi,Prod.mk.injEq] at h;obtain ⟨rfl,rfl⟩:=h;exact ⟨⟨c,cs,hv c (by simp [TV.cs,TR.cs]),hrow,by rw [hwt];exact h1⟩,k⟩
     ·cases h
    ·cases h
   ·cases h
  ·cases h
 | v t =>
  have:a.wi=[]:=by
   simp only [bind1] at h;split at h
   ·split at h
    ·split at h
     ·simp only [osi,Prod.mk.injEq] at h;obtain ⟨_,rfl⟩:=h;rfl
     ·cases h
    ·cases h
   ·cases h
  rw [this];exact k
 | o t mk =>
  have:a.wi=[]:=by
   simp only [bind1] at h;split at h
   ·split at h
    ·split at h
     ·simp only [osi,Prod.mk.injEq] at h;obtain ⟨_,rfl⟩:=h;rfl
     ·cases h
    ·cases h
   ·cases h
  rw [this];exact k
 | rp t =>
  have:a.wi=[]:=by
   simp only [bind1] at h;split at h
   ·split at h
    ·simp only [osi,Prod.mk.injEq] at h;obtain ⟨_,rfl⟩:=h;rfl
    ·cases h
   ·cases h
  rw [this];exact k
 | rq t=>simp [bind1] at h
 | k f =>
  have:a.wi=[]:=by
   simp only [bind1] at h;split at h
   ·split at h
    ·simp only [osi,Prod.mk.injEq] at h;obtain ⟨_,rfl⟩:=h;rfl
    ·cases h
   ·cases h
  rw [this];exact k
 | f a' r' =>
  have:a.wi=[]:=by
   simp only [bind1] at h;split at h
   ·split at h
    ·split at h
     ·rename_i h1 h2 cv _ _ hcv;subst h1 h2;simp only [osi,Prod.mk.injEq] at h;obtain ⟨_,rfl⟩:=h;rfl
     ·cases h
    ·cases h
   ·split at h
    ·rename_i h1 h2 _ _;subst h1 h2;simp only [osi,Prod.mk.injEq] at h;obtain ⟨_,rfl⟩:=h;rfl
    ·cases h
   ·split at h
    ·split at h
     ·rename_i h1 h2 cv ln _ _ hcv;subst h1 h2;simp only [osi,Prod.mk.injEq] at h;obtain ⟨_,rfl⟩:=h;rfl
     ·cases h
    ·cases h
   ·cases h
  rw [this];exact k
theorem winT_w {m:PM} {ms:List PM} {wl:List SD} (h:wl.map (·.1)=winT (m::ms)):(∀ t,m=.w t→∃ w r,wl=w::r∧w.1=t)∧(tailW m wl).map (·.1)=winT ms:=by
 cases m with
 | w t =>
  cases wl with
  | nil=>simp [winT] at h
  | cons w wl =>
   simp only [winT,List.map_cons,List.cons.injEq] at h;refine ⟨fun t' e => ?_,h.2⟩;injection e with e;subst e;exact ⟨w,wl,rfl,h.1⟩
 | _=>exact ⟨fun t e=>(by cases e),h⟩
theorem bindA_ok (hI:Inv P τ):∀ {ms:List PM} {vs:List TV} {x:DenMs P ms} {a:AI} {wl:List SD} {Q:List Nat→List Nat→List (Nat×Slot)→Prop},(∀ v∈vs,∀ c∈v.cs,cok P τ.h τ.g c)→bindA τ tab ms vs=some (x,a)→wl.map (·.1)=winT ms →
  WOk P τ a.wi wl∧(Q a.tk a.ln ((winWr τ a.wi wl).map wsl)→callPrep (img n τ) (vs.map TV.rv) (argsL (inL P ms x) wl) Q)
 | [],[],x,a,wl,Q,hv,h,hw=>by
  simp only [bindA,osi,Prod.mk.injEq] at h;obtain ⟨_,rfl⟩:=h;have:wl=[]:=by simpa [winT] using hw
  subst this;exact ⟨trivial,fun k=>k⟩
 | m::ms,v::vs,x,a,wl,Q,hv,h,hw=>by
  simp only [bindA] at h;split at h
  ·rename_i x1 a1 h1;split at h
   ·rename_i xs b1 h2;simp only [osi,Prod.mk.injEq] at h;obtain ⟨rfl,rfl⟩:=h;obtain ⟨w1,w2⟩:=winT_w hw;obtain ⟨i1,i2⟩:=bindA_ok hI (Q:=fun tk ln wr=>Q (a1.tk++tk) (a1.ln++ln) ((winWr τ a1.wi wl).map wsl++wr)) (fun v hv'=>hv v (by simp [hv'])) h2 w2;have hw1:=bind1_w hI (hv v (by simp)) h1 w1 i1;refine ⟨hw1,fun k => ?_⟩;rw [inL_consM];refine bind1_ok hI (hv v (by simp)) h1 w1 (i2 ?_);have key:winWr τ (a1.wi++b1.wi) wl=winWr τ a1.wi wl++winWr τ b1.wi (tailW m wl):=by
     have hz:a1.wi=[]∧tailW m wl=wl∨∃ id j w r,a1.wi=[(id,j)]∧wl=w::r∧tailW m wl=r:=by
      cases m with
      | w t =>
       obtain ⟨w,r,rfl,_⟩:=w1 t rfl;right;simp only [bind1] at h1;split at h1
       ·split at h1
        ·split at h1
         ·split at h1
          ·simp only [osi,Prod.mk.injEq] at h1;obtain ⟨_,rfl⟩:=h1;exact ⟨_,_,w,r,rfl,rfl,rfl⟩
          ·cases h1
         ·cases h1
        ·cases h1
       ·cases h1
      | _ =>
       left;have h3:=bind1_w hI (hv v (by simp)) h1 (r:=[]) (wl:=[]) (fun t e=>by cases e) trivial;refine ⟨?_,rfl⟩;rw [List.append_nil] at h3;cases hwi:a1.wi with
       | nil=>rfl
       | cons y ys=>rw [hwi] at h3;exact h3.elim
     rcases hz with ⟨e1,e2⟩|⟨id,j,w,r,e1,e2,e3⟩
     ·rw [e1,e2];simp [winWr]
     ·rw [e3,e1,e2];simp [winWr]
    rw [key,List.map_append] at k;exact k
   ·cases h
  ·cases h
 | [],_::_,x,a,wl,Q,hv,h,hw=>by simp [bindA] at h
 | _::_,[],x,a,wl,Q,hv,h,hw=>by simp [bindA] at h
end
theorem cells_c (t:Ty) (v:Den t):((cells t v).map TC.c).map TC.pv=enc t v:=by rw [List.map_map,←cells_pv];rfl
theorem headD_map (l:List TC):(l.map TC.pv).headD .un=(l.headD .un).pv:=by cases l<;>rfl
theorem thawTs_ok (g:Nat):∀ (b:Nat) (l:List SD),thawRs b (l.map resR)=((thawTs g b l).1.map TR.r1,(thawTs g b l).2.map wsl)
 | b,[]=>rfl
 | b,w::r=>by
  have e1:=tthaw_ok g b ((cells w.1 w.2).map .c);rw [cells_c] at e1;have hcs:(resR w).cs=enc w.1 w.2:=mkR1_cs _ _ (enc_len _ _);have hth:thawR b (resR w)=(match w.1.agg with|true=>TR.agg (tthaw g b ((cells w.1 w.2).map .c)).1|false=>TR.one ((tthaw g b ((cells w.1 w.2).map .c)).1.headD .un)).r1:=by
   cases ha:w.1.agg with
   | true =>
    simp only [resR,mkR1_agg ha,thawR,e1,TR.r1]
   | false =>
    obtain ⟨p,hp⟩:∃ p,enc w.1 w.2=[p]:=by
     have h1:w.1.sz=1:=by
      revert ha;cases w.1<;>first|(intro _;rfl)|(intro h;cases h)
     exact List.length_eq_one_iff.1 (by rw [enc_len];exact h1)
    simp only [resR,mkR1_one ha,thawR,TR.r1];rw [hp] at e1 ⊢;simp only [List.headD_cons,e1,headD_map]
  simp only [List.map_cons,thawRs,hth,hcs,e1,thawTs,List.length_map,List.map_append];rw [thawTs_ok g _ r]<;>rfl
theorem thawTs_blk {g:Nat}:∀ {b:Nat} {l:List SD} {e:Nat×TB},e∈(thawTs g b l).2→b≤e.1∧((∃ t l,e.2=.sl t g l)∨∃ k,e.2=.nb g k)
 | b,[],e,h=>by simp [thawTs] at h
 | b,w::r,e,h=>by
  simp only [thawTs,lma] at h;rcases h with h|h
  ·exact tthaw_blk h
  ·have:=thawTs_blk h;exact ⟨by omega,this.2⟩
theorem thawTs_ids (g:Nat):∀ (b:Nat) (l:List SD),(thawTs g b l).2.map (·.1)=List.range' b (thawTs g b l).2.length
 | b,[]=>rfl
 | b,w::r=>by
  simp only [thawTs,List.map_append,List.length_append];rw [tthaw_ids,thawTs_ids g _ r,←List.range'_append_1]
theorem thawTs_cell {g:Nat}:∀ {b:Nat} {l:List SD} {y:TR} {c:TC},y∈(thawTs g b l).1→c∈y.cs→c=.un∨(∃ x,c=.c x)∨∃ id tb m,c=.ref id g m∧(id,tb)∈(thawTs g b l).2∧∀ v m',vlen tb=some (v,m')→m=m'
 | b,[],y,c,h,hc=>by simp [thawTs] at h
 | b,w::r,y,c,h,hc=>by
  simp only [thawTs,List.mem_cons] at h;have key:∀ c∈(tthaw g b ((cells w.1 w.2).map .c)).1,(∃ x,c=.c x)∨∃ id tb m,c=.ref id g m∧(id,tb)∈(thawTs g b (w::r)).2∧∀ v m',vlen tb=some (v,m')→m=m':=by
   intro c hc;rcases tthaw_cell hc with k|⟨id,tb,m,k1,k2,k3⟩
   ·obtain ⟨x,_,rfl⟩:=List.mem_map.1 k;exact .inl ⟨x,rfl⟩
   ·exact .inr ⟨id,tb,m,k1,by simp [thawTs,k2],k3⟩
  rcases h with rfl|h
  ·split at hc
   ·exact .inr (key c hc)
   ·have hc:c=(tthaw g b ((cells w.1 w.2).map .c)).1.headD .un:=by simpa [TR.cs] using hc
    cases hz:(tthaw g b ((cells w.1 w.2).map .c)).1 with
    | nil=>rw [hz] at hc;exact .inl hc
    | cons z zs=>rw [hz] at hc;exact .inr (key c (by rw [hz,hc];simp))
  ·rcases thawTs_cell h hc with k|k|⟨id,tb,m,k1,k2,k3⟩
   ·exact .inl k
   ·exact .inr (.inl k)
   ·exact .inr (.inr ⟨id,tb,m,k1,by simp [thawTs,k2],k3⟩)
theorem resTV_rv (l:List TR):(resTV l).rv=resRV (l.map TR.r1):=by
 match l with
 | []=>rfl
 | [y]=>rfl
 | y::z::r=>rfl
theorem resTV_cs {l:List TR} {c:TC} (h:c∈(resTV l).cs):∃ y∈l,c∈y.cs:=by
 match l,h with
 | [y],h=>exact ⟨y,by simp,h⟩
 | y::z::r,h=>simpa [resTV,TV.cs,List.mem_flatMap] using h
theorem tdeads_wsl:∀ (l:List Nat),(tdeads l).map wsl=deads l
 | []=>rfl
 | i::r=>by simp only [tdeads,List.map_cons,deads,tdeads_wsl r];rfl
theorem tdeads_ids:∀ (l:List Nat),(tdeads l).map (·.1)=l
 | []=>rfl
 | i::r=>by simp [tdeads,tdeads_ids r]
theorem tdeads_mem:∀ {l:List Nat} {e:Nat×TB},e∈tdeads l→e.2=.dead
 | i::r,e,h=>by
  rcases List.mem_cons.1 h with rfl|h
  ·rfl
  ·exact tdeads_mem h
section
variable {P:Program} {τ:TSt} {n b:Nat} {tab:List (AEnt P)} {R:Type} {K:TE→Option R} {r:R}
theorem winWr_ids:∀ {wi:List (Nat×Nat)} {ws:List SD},WOk P τ wi ws→(winWr τ wi ws).map (·.1)=fsts wi
 | [],[],_=>rfl
 | (id,j)::r,w::ws,h=>by simp [winWr,fsts,winWr_ids h.2]
 | [],_::_,h=>h.elim
 | _::_,[],h=>h.elim
theorem winWr_mem:∀ {wi:List (Nat×Nat)} {ws:List SD} {e:Nat×TB},WOk P τ wi ws→e∈winWr τ wi ws→∃ (j:Nat) (w:SD) (c:TC) (cs:List TC),e.2=setRow j ((cells w.1 w.2).map .c) (tbAt τ.h e.1)∧cok P τ.h τ.g c∧rowAt τ c=some (cs,e.1,j)∧j+w.1.sz≤cs.length
 | (id,j)::r,w::ws,e,h,he=>by
  obtain ⟨⟨c,cs,k1,k2,k3⟩,h⟩:=h;simp only [winWr,List.mem_cons] at he;rcases he with rfl|he
  ·exact ⟨j,w,c,cs,rfl,k1,k2,k3⟩
  ·exact winWr_mem h he
 | [],_,e,_,he=>by simp [winWr] at he
theorem setRow_vlen {j:Nat} {ys:List TC} {tb:TB}:vlen (setRow j ys tb)=vlen tb:=by cases tb<;>rfl
theorem setRow_hinf {j:Nat} {ys:List TC} {tb:TB}:hinf (setRow j ys tb)=hinf tb:=by cases tb<;>rfl
theorem liveB_lt {i:Nat} (h:liveB (tbAt τ.h i)=true):i<τ.h.length:=tbAt_lt fun e=>by rw [e] at h;cases h
theorem liveB_slot {tb:TB} (h:liveB tb=true):tb.slot.isLive=true:=by cases tb<;>first|rfl|cases h
theorem allVm_ok:∀ {ms:List PM} {x:DenMs P ms} {wl:List SD},allVm ms=true→allV (argsL (inL P ms x) wl)=true:=by
 have key:∀ (l:List (SM P)) (wl:List SD),allVm (l.map (·.1))=true→allV (argsL l wl)=true:=by
  intro l;induction l with
  | nil=>intro wl _;rfl
  | cons y l ih =>
   intro wl h;obtain ⟨m,x⟩:=y;cases m with
   | v t=>exact ih wl h
   | rp t=>exact ih wl h
   | f a r=>exact ih wl h
   | k f=>exact ih wl h
   | rq t=>exact ih wl h
   | o t mk=>cases h
   | w t=>cases h
 intro ms x wl h;refine key _ wl ?_;have:∀ (ms:List PM) (x:DenMs P ms),(inL P ms x).map (·.1)=ms:=by
  intro ms;induction ms with
  | nil=>intro x;rfl
  | cons m ms ih =>
   intro x;cases ms with
   | nil=>rfl
   | cons m' ms=>simp only [inL,List.map_cons];rw [ih]
 rw [this];exact h
theorem callT_ok (hI:Inv P τ) (hb:τ.h.length≤b) {E:AEnt P} {vs:List TV} (hv:∀ v∈vs,∀ c∈v.cs,cok P τ.h τ.g c) (h:callT τ tab b E vs K=some r) :
  (E.s.box=false∧callK P (img n τ) b E.e.id (vs.map TV.rv) (fun F=>∃ te,F=te.img∧OkE P τ te∧K te=some r))∨(E.s.box=true∧boxK P (img n τ) b E.e.id (vs.map TV.rv) (fun F=>∃ te,F=te.img∧OkE P τ te∧K te=some r)):=by
 unfold callT at h;split at h
 ·rename_i x a hx;split at h
  ·rename_i hids;rw [bae] at hids;obtain ⟨hids,hown⟩:=hids;obtain ⟨y,hy,h⟩:=bd_some h;have hok:=E.e.ok x y (bindA_sm hv hx) hy;simp only [idsOk,bae] at hids;obtain ⟨⟨⟨⟨⟨⟨⟨d1,d2⟩,d3⟩,d4⟩,d5⟩,d6⟩,d7⟩,d8⟩:=hids;have hty:=outL_ty _ y;have hws:((outL _ y).drop E.s.rs.length).map (·.1)=winT E.s.ms:=by rw [List.map_drop,hty];simp
   split at h
   ·rename_i hbox;refine .inl ⟨hbox,?_⟩;simp only [ConE,hbox] at hok;obtain ⟨hwok,hprep⟩:=bindA_ok (n:=n) (Q:=fun tk ln wr=>tk.Nodup∧(wr.map (·.1)).Nodup∧(∀ i∈tk,i∉wr.map (·.1))∧(∀ i∈ln,((img n τ).slot i).isLive=true∧i∉tk∧i∉wr.map (·.1)) ∧
     (ln=[]∨((∀ z∈((outL _ y).take E.s.rs.length).map resR,∀ p∈z.cs,NoRo p)∧∀ z∈wArgs (argsL (inL P E.s.ms x) ((outL _ y).drop E.s.rs.length)),∀ p∈z.2,NoRo p))∧(∀ z∈(thawRs b (((outL _ y).take E.s.rs.length).map resR)).2,(img n τ).slot z.1=.fresh) ∧
     ∃ te,({ v:=resRV (thawRs b (((outL _ y).take E.s.rs.length).map resR)).1,wh:=wr++(deads tk++(thawRs b (((outL _ y).take E.s.rs.length).map resR)).2),rd:=ln++(tk++wr.map (·.1)) }:Eff)=te.img∧OkE P τ te∧K te=some r) hI hv hx hws
    refine ⟨_,_,hok,hprep ?_⟩;have hwi:((winWr τ a.wi ((outL _ y).drop E.s.rs.length)).map wsl).map (·.1)=fsts a.wi:=by
     rw [List.map_map,←winWr_ids hwok];rfl
    rw [thawTs_ok τ.g];refine ⟨nodupB_ok d1,by rw [hwi];exact nodupB_ok d2,by rw [hwi];exact disjB_ok d3,fun i hi=>⟨?_,disjB_ok d4 i hi,by rw [hwi];exact disjB_ok d5 i hi⟩,?_,?_,_,?_,?_,h⟩
    ·rw [img_slot];exact liveB_slot (allLive_ok d6 i hi)
    rw [Bool.or_eq_true] at hown;refine hown.elim (fun k=>.inl (isNil_ok k)) fun hown => ?_
    have hown:=ownTs_ok hown;have hot:∀ w∈outL _ y,w.1.own=true:=fun w hw=>hown _ (by rw [← outL_ty _ y];exact List.mem_map_of_mem hw)
    refine .inr ⟨?_,?_⟩
    ·intro z hz p hp;obtain ⟨w,hw,rfl⟩:=List.mem_map.1 hz;rw [resR,mkR1_cs _ _ (enc_len _ _)] at hp;exact enc_no _ (hot w (List.mem_of_mem_take hw)) _ p hp
    ·have key:∀ (l:List (SM P)) (wl:List SD),(∀ w∈wl,w.1.own=true)→∀ z∈wArgs (argsL l wl),∀ p∈z.2,NoRo p:=by
      intro l;induction l with
      | nil=>intro wl ho z hz;simp [argsL,wArgs] at hz
      | cons y l ih =>
       intro wl ho z hz;obtain ⟨m,x⟩:=y;cases m with
       | v t=>exact ih wl ho z hz
       | o t mk=>exact ih wl ho z hz
       | rp t=>exact ih wl ho z hz
       | f a r=>exact ih wl ho z hz
       | k f=>exact ih wl ho z hz
       | rq t=>exact ih wl ho z hz
       | w t =>
        simp only [argsL,wArgs,List.mem_cons] at hz;rcases hz with rfl|hz
        ·intro p hp;cases wl with
         | nil=>simp at hp
         | cons w wl=>exact enc_no _ (ho w (by simp)) _ p hp
        ·exact ih _ (fun w hw=>ho w (List.mem_of_mem_tail hw)) z hz
     exact key _ _ fun w hw=>hot w (List.mem_of_mem_drop hw)
    ·intro z hz;obtain ⟨e,he,rfl⟩:=List.mem_map.1 hz;have:=(thawTs_blk he).1;exact img_fresh _ (by simp only [wsl];omega)
    ·simp only [TE.img,resTV_rv,hwi];simp only [List.map_append,tdeads_wsl,←tdeads_wsl];rfl
    ·have hnd:((winWr τ a.wi ((outL _ y).drop E.s.rs.length)++(tdeads a.tk++(thawTs τ.g b ((outL _ y).take E.s.rs.length)).2)).map (·.1)).Nodup:=by
      simp only [List.map_append,winWr_ids hwok,tdeads_ids,thawTs_ids];refine List.nodup_append.2 ⟨nodupB_ok d2,List.nodup_append.2 ⟨nodupB_ok d1,List.nodup_range',fun i hi j hj e => ?_⟩,fun i hi j hj e => ?_⟩
      ·subst e;have:=liveB_lt (allLive_ok d7 i hi);rw [List.mem_range'_1] at hj;omega
      ·subst e;rcases lma.1 hj with hj|hj
       ·exact disjB_ok d3 i hj hi
       ·have:=liveB_lt (allLive_ok d8 i hi);rw [List.mem_range'_1] at hj;omega
     refine OkE.wr hI (Nat.le_succ _) (fun e he => ?_) (fun le e he => ?_) (fun le c hc => ?_)
     ·rcases lma.1 he with he|he
      ·obtain ⟨j,w,c,cs,e1,_⟩:=winWr_mem hwok he;rw [e1];exact ⟨fun v m _ e=>by rw [setRow_vlen] at e;exact e,fun v m q _ e=>by rw [setRow_hinf] at e;exact e⟩
      ·rcases lma.1 he with he|he
       ·rw [tdeads_mem he];exact ⟨fun v m _ e=>(by cases e),fun v m q _ e=>(by cases e)⟩
       ·obtain ⟨_,⟨t,l,e1⟩|⟨k,e1⟩⟩:=thawTs_blk he
        ·rw [e1];exact ⟨fun v m hv e=>by simp [vlen] at e;omega,fun v m q hv e=>by simp [hinf] at e⟩
        ·rw [e1];exact ⟨fun v m hv e=>by simp [vlen] at e;omega,fun v m q hv e=>by simp [hinf] at e⟩
     ·rcases lma.1 he with he|he
      ·obtain ⟨j,w,c,cs,e1,k1,k2,k3⟩:=winWr_mem hwok he;rw [e1];have hbk:=le.bok (hI.blks e.1);have hcl:((cells w.1 w.2).map TC.c).length=w.1.sz:=by simp [cells_len]
       unfold rowAt at k2;split at k2
       ·split at k2
        ·rename_i w' cs' hB;simp only [osi,Prod.mk.injEq] at k2;obtain ⟨rfl,rfl,rfl⟩:=k2;rw [hB] at hbk ⊢;intro c hc;rcases mem_splice hc with hc|hc
         ·exact hbk c hc
         ·obtain ⟨z,_,rfl⟩:=List.mem_map.1 hc;trivial
        ·cases k2
       ·split at k2
        ·rename_i hB;split at k2
         ·simp only [osi,Prod.mk.injEq] at k2;obtain ⟨rfl,rfl,rfl⟩:=k2;rw [hB] at hbk ⊢;obtain ⟨q1,q2,q3,q4,q5,q6⟩:=hbk;refine ⟨q1,q2,fun c hc => ?_,by rw [splice_len (by omega)];exact q4,q5,by simp⟩;rcases mem_splice hc with hc|hc
          ·exact q3 c hc
          ·obtain ⟨z,_,rfl⟩:=List.mem_map.1 hc;trivial
         ·cases k2
        ·cases k2
       ·cases k2
      ·rcases lma.1 he with he|he
       ·rw [tdeads_mem he];trivial
       ·obtain ⟨_,⟨t,l,e1⟩|⟨k,e1⟩⟩:=thawTs_blk he
        ·rw [e1];exact Nat.lt_succ_self _
        ·rw [e1];exact Nat.lt_succ_self _
     ·obtain ⟨z,hz,hc⟩:=resTV_cs hc;rcases thawTs_cell hz hc with rfl|⟨x,rfl⟩|⟨id,tb,m,rfl,k2,k3⟩
      ·trivial
      ·trivial
      ·refine ⟨Nat.lt_succ_self _,fun m' e => ?_⟩;rw [setTs_get (x:=tb) hnd (by simp [k2])] at e;exact k3 _ _ e
   ·rename_i hbox;split at h
    ·rename_i hc;simp only [bae] at hc;obtain ⟨⟨⟨c1,c2⟩,c3⟩,c4⟩:=hc;refine .inr ⟨hbox,?_⟩;simp only [ConE,hbox] at hok;have hnil:∀ {α:Type} {l:List α},isNil l=true→l=[]:=fun {α l} h=>by cases l<;>first|rfl|cases h
     have e1:=hnil c1;have e2:=hnil c2;have e3:=hnil c3;have hwt:∀ ms:List PM,allVm ms=true→winT ms=[]:=by
      intro ms;induction ms with
      | nil=>intro _;rfl
      | cons m ms ih=>intro h;cases m<;>first|exact ih h|cases h
     obtain ⟨_,hprep⟩:=bindA_ok (n:=n) (wl:=[]) (Q:=fun tk ln wr=>tk=[]∧ln=[]∧wr=[]∧(img n τ).slot b=.fresh∧(∀ p∈(outL _ y).flatMap (fun w:SD=>enc w.1 w.2),NoRef p) ∧
      ∃ te,({ v:=.r (.one (.ptr b 1 0 0)),wh:=[(b,.live ⟨1,((outL _ y).flatMap (fun w:SD=>enc w.1 w.2)).length,[],[(outL _ y).flatMap (fun w:SD=>enc w.1 w.2)]⟩)] }:Eff)=te.img∧OkE P τ te∧K te=some r) hI hv hx (by rw [hwt _ c4];rfl)
     refine ⟨_,_,hok,allVm_ok c4,hprep ⟨e2,e1,by rw [e3];rfl,img_fresh b hb,fun p hp => ?_,_,?_,newOk (c:=.vp b 0) hI (Nat.le_refl _) (fun _ _ _=>var_vlen) (fun _ _ _ _=>var_hinf) (fun le c hc => ?_) trivial,h⟩⟩
     ·obtain ⟨w,_,hp⟩:=List.mem_flatMap.1 hp;exact enc_nr _ _ p hp
     ·have:(((outL _ y).flatMap fun w=>cells w.1 w.2).map TC.c).map TC.pv=(outL _ y).flatMap (fun w:SD=>enc w.1 w.2):=by
       rw [List.map_map,List.map_flatMap];congr 1;funext w;rw [← cells_pv];rfl
      simp only [TE.img,TV.rv,TR.r1,TC.pv,List.map_cons,List.map_nil,TB.slot,this];rw [← this];simp
     ·obtain ⟨z,_,rfl⟩:=List.mem_map.1 hc;trivial
    ·cases h
  ·cases h
 ·cases h
end
section
variable {P:Program} {σ:St} {b:Nat}
theorem setParts_mono {Q Q':List PV→Prop} (hk:∀ l,Q l→Q' l):∀ {ps:List (Nat×Nat×Ix)} {zs:List PV},setParts zs σ ps Q→setParts zs σ ps Q'
 | [],zs,h=>hk _ h
 | (off,n,x)::r,zs,h=>by
  obtain ⟨c,h1,h2,h3,h⟩:=h;exact ⟨c,h1,h2,h3,setParts_mono hk h⟩
theorem setElems_mono {k:Nat} {Q Q':List (List PV)→Prop} (hk:∀ l,Q l→Q' l):∀ {ps:List (Nat×Ix)} {l:List (List PV)},setElems k l σ ps Q→setElems k l σ ps Q'
 | [],zs,h=>hk _ h
 | (i,x)::r,zs,h=>by
  obtain ⟨c,h1,h2,h3,h⟩:=h;exact ⟨c,h1,h2,h3,setElems_mono hk h⟩
theorem eqCells_mn:∀ {ks:List (Option IntKind)} {l m:List PV} {Q Q':Bool→Prop},(∀ t,Q t→Q' t)→eqCells ks l m Q→eqCells ks l m Q'
 | ks,l,m,Q,Q',hk,h=>by
  unfold eqCells at h ⊢;split at h
  ·exact hk _ h
  ·exact ⟨h.1,h.2.1,eqCells_mn (fun t ht=>hk _ ht) h.2.2⟩
  ·exact eqCells_mn (fun t ht=>hk _ ht) h
  ·exact h.elim
theorem binI_mono {op:BinOp} {k:IntKind} {x y:Int} {Q Q':PV→Prop} (hk:∀ p,Q p→Q' p) (h:binI op k x y Q):binI op k x y Q':=by
 unfold binI at h ⊢;split at h<;>first|exact hk _ h|exact ⟨h.1,hk _ h.2⟩|exact h.elim
theorem blk_mono {id full:Nat} {Q Q':Blk→Prop} (hk:∀ B,Q B→Q' B) (h:σ.blk id full Q):σ.blk id full Q':=by
 unfold St.blk at h ⊢;split at h
 ·exact ⟨h.1,hk _ h.2⟩
 ·exact h.elim
theorem bdP_mono {o:Option Ix} {d:Nat} {Q Q':Nat→Prop} (hk:∀ m,Q m→Q' m) (h:bdP σ o d Q):bdP σ o d Q':=by
 unfold bdP at h ⊢;split at h
 ·exact hk _ h
 ·split at h
  ·exact ⟨h.1,hk _ h.2⟩
  ·exact h.elim
theorem srcP_mono {k:Nat} {y:PV} {Q Q':List (List PV)→List Nat→Prop} (hk:∀ l r,Q l r→Q' l r) (h:srcP σ k y Q):srcP σ k y Q':=by
 unfold srcP at h ⊢;split at h
 ·exact blk_mono (fun B hB=>⟨hB.1,hB.2.1,hk _ _ hB.2.2⟩) h
 ·exact ⟨h.1,h.2.1,hk _ _ h.2.2⟩
 ·exact h.elim
theorem vwP_mono {p x:PV} {Q Q':List Nat→Prop} (hk:∀ l,Q l→Q' l) (h:vwP σ p x Q):vwP σ p x Q':=by
 unfold vwP at h ⊢;split at h
 ·split at h
  ·obtain ⟨h1,c,h2,h3⟩:=h;refine ⟨h1,c,h2,?_⟩;split at h3
   ·exact ⟨h3.1,hk _ h3.2⟩
   ·exact h3.elim
  ·exact h.elim
 ·exact ⟨h.1,hk _ h.2⟩
 ·exact h.elim
 ·split at h
  ·exact ⟨h.1,hk _ h.2⟩
  ·exact h.elim
theorem vwL_mono:∀ {ps xs:List PV} {Q Q':List Nat→Prop},(∀ l,Q l→Q' l)→vwL σ ps xs Q→vwL σ ps xs Q'
 | [],[],Q,Q',hk,h=>hk _ h
 | p::ps,x::xs,Q,Q',hk,h=>vwP_mono (fun l hl=>vwL_mono (fun l' hl'=>hk _ hl') hl) h
 | [],_::_,Q,Q',hk,h=>h.elim
 | _::_,[],Q,Q',hk,h=>h.elim
theorem vwQ_mono {p x:PV} {Q Q':List Nat→Prop} (hk:∀ l,Q l→Q' l) (h:vwQ σ p x Q):vwQ σ p x Q':=by
 unfold vwQ at h ⊢;split at h
 ·split at h
  ·obtain ⟨h1,c,h2,h3⟩:=h;refine ⟨h1,c,h2,?_⟩;split at h3
   ·exact ⟨h3.1,hk _ h3.2⟩
   ·exact h3.elim
  ·exact h.elim
 ·exact vwP_mono hk h
theorem vwQL_mono:∀ {ps xs:List PV} {Q Q':List Nat→Prop},(∀ l,Q l→Q' l)→vwQL σ ps xs Q→vwQL σ ps xs Q'
 | [],[],Q,Q',hk,h=>hk _ h
 | p::ps,x::xs,Q,Q',hk,h=>vwQ_mono (fun l hl=>vwQL_mono (fun l' hl'=>hk _ hl') hl) h
 | [],_::_,Q,Q',hk,h=>h.elim
 | _::_,[],Q,Q',hk,h=>h.elim
theorem vwR_mono {r x:R1} {Q Q':List Nat→Prop} (hk:∀ l,Q l→Q' l) (h:vwR σ r x Q):vwR σ r x Q':=by
 unfold vwR at h ⊢;split at h
 ·rcases h with h|⟨f,ps,xs,e1,e2,h⟩
  ·exact .inl (vwP_mono hk h)
  ·exact .inr ⟨f,ps,xs,e1,e2,vwQL_mono hk h⟩
 ·exact vwL_mono hk h
 ·exact h.elim
theorem prep_mono:∀ {is:List RV} {as:List Arg} {Q Q':List Nat→List Nat→List (Nat×Slot)→Prop},(∀ a b c,Q a b c→Q' a b c)→callPrep σ is as Q→callPrep σ is as Q'
 | [],[],Q,Q',hk,h=>hk _ _ _ h
 | ix::is,.v x::as,Q,Q',hk,h=>by
  simp only [callPrep] at h ⊢;obtain ⟨h1,h⟩:=h;refine ⟨h1,?_⟩;split at h
  ·obtain ⟨x',hn',him,h⟩:=h;exact ⟨x',hn',him,vwR_mono (fun l hl=>prep_mono (fun a b c hq=>hk _ _ _ hq) hl) h⟩
  ·exact h.elim
 | ix::is,.o x::as,Q,Q',hk,h=>by
  simp only [callPrep] at h ⊢;obtain ⟨h1,h⟩:=h;refine ⟨h1,?_⟩;split at h
  ·obtain ⟨i,l,hm,h⟩:=h;exact ⟨i,l,hm,prep_mono (fun a b c hq=>hk _ _ _ hq) h⟩
  ·exact h.elim
 | ix::is,.w c c'::as,Q,Q',hk,h=>by
  simp only [callPrep] at h ⊢;obtain ⟨h1,h⟩:=h;refine ⟨h1,?_⟩;split at h
  ·split at h
   ·obtain ⟨h2,ce,h3,h4,h5,h6,h⟩:=h;exact ⟨h2,ce,h3,h4,h5,h6,prep_mono (fun a b c hq=>hk _ _ _ hq) h⟩
   ·exact h.elim
  ·exact h.elim
 | [],_::_,Q,Q',hk,h=>h.elim
 | _::_,[],Q,Q',hk,h=>by simp [callPrep] at h
theorem callK_mono {f:FuncId} {is:List RV} {Q Q':Eff→Prop} (hk:∀ E,Q E→Q' E) (h:callK P σ b f is Q):callK P σ b f is Q':=by
 obtain ⟨args,res,hc,hp⟩:=h;exact ⟨args,res,hc,prep_mono (fun a b c ⟨k1,k2,k3,k4,k5,k6,k7⟩=>⟨k1,k2,k3,k4,k5,k6,hk _ k7⟩) hp⟩
theorem boxK_mono {f:FuncId} {is:List RV} {Q Q':Eff→Prop} (hk:∀ E,Q E→Q' E) (h:boxK P σ b f is Q):boxK P σ b f is Q':=by
 obtain ⟨args,c,hc,ha,hp⟩:=h;exact ⟨args,c,hc,ha,prep_mono (fun a b c ⟨k1,k2,k3,k4,k5,k6⟩=>⟨k1,k2,k3,k4,k5,hk _ k6⟩) hp⟩
theorem effK_mono {k:AK} {Q Q':Eff→Prop} (hk:∀ E,Q E→Q' E) (h:effK σ b k Q):effK σ b k Q':=by
 cases k with
 | slc k x lo hi =>
  rw [effK_slc] at h ⊢;split at h
  ·exact blk_mono (fun B hB=>⟨hB.1,bdP_mono (fun m hm=>bdP_mono (fun m' hm'=>⟨hm'.1,hm'.2.1,hk _ hm'.2.2⟩) hm) hB.2⟩) h
  ·exact ⟨h.1,h.2.1,bdP_mono (fun m hm=>bdP_mono (fun m' hm'=>⟨hm'.1,hm'.2.1,hk _ hm'.2.2⟩) hm) h.2.2⟩
  ·exact h.elim
 | app k bytes x y =>
  rw [effK_app] at h ⊢;split at h
  ·exact ⟨h.1,blk_mono (fun B hB=>⟨hB.1,srcP_mono (fun l r hl=>⟨hl.1,hl.2.1,hk _ hl.2.2⟩) hB.2⟩) h.2⟩
  ·exact ⟨h.1,srcP_mono (fun l r hl=>⟨hl.1,hl.2.1,hk _ hl.2.2⟩) h.2⟩
  ·exact h.elim
 | mv x=>exact hk _ h
 | nils k=>exact ⟨h.1,hk _ h.2⟩
 | pick c x y =>
  simp only [effK] at h ⊢;split at h
  ·split at h
   ·rename_i e;rw [if_pos e];exact hk _ h
   ·rename_i e;rw [if_neg e];exact hk _ h
  ·exact h.elim
 | box x =>
  simp only [effK] at h ⊢;refine ⟨h.1,?_⟩;have h:=h.2;split at h
  ·exact hk _ h
  ·exact h.elim
 | alloc zs=>exact ⟨h.1,hk _ h.2⟩
 | build zs ps=>exact setParts_mono (fun l hl=>hk _ hl) h
 | bsl k n zs ps=>exact ⟨h.1,setElems_mono (fun l hl=>hk _ hl) h.2⟩
 | mks k bytes zs x =>
  simp only [effK] at h ⊢;refine ⟨h.1,?_⟩;have h:=h.2;split at h
  ·exact ⟨h.1,h.2.1,h.2.2.1,hk _ h.2.2.2⟩
  ·exact h.elim
 | ld1 x =>
  simp only [effK] at h ⊢;split at h
  ·refine blk_mono (fun B hB => ?_) h;obtain ⟨c,p,h1,h2,h3⟩:=hB;refine ⟨c,p,h1,h2,?_⟩;split at h3
   ·exact ⟨h3.1,hk _ h3.2⟩
   ·exact hk _ h3
  ·obtain ⟨p,h1,h2⟩:=h;exact ⟨p,h1,hk _ h2⟩
  ·exact h.elim
 | ld n x =>
  simp only [effK] at h ⊢;split at h
  ·refine blk_mono (fun B hB => ?_) h;obtain ⟨c,h1,h2,h3⟩:=hB;refine ⟨c,h1,h2,?_⟩;split at h3
   ·exact hk _ h3
   ·exact ⟨h3.1,hk _ h3.2⟩
  ·exact ⟨h.1,hk _ h.2⟩
  ·exact h.elim
 | st n x y =>
  simp only [effK] at h ⊢;split at h
  ·refine blk_mono (fun B hB => ?_) h;obtain ⟨c,ys,h1,h2,h3,h4,h5⟩:=hB;exact ⟨c,ys,h1,h2,h3,h4,hk _ h5⟩
  ·exact h.elim
 | nchk x =>
  simp only [effK] at h ⊢;split at h
  ·exact hk _ h
  ·exact hk _ h
  ·exact h.elim
 | bin bo op x y =>
  simp only [effK] at h ⊢;split at h
  ·exact ⟨h.1,binI_mono (fun p hp=>hk _ hp) h.2⟩
  ·refine ⟨h.1,?_⟩;have h:=h.2;split at h
   ·exact hk _ h
   ·exact hk _ h
   ·exact h.elim
  ·exact h.elim
 | eqs ng ks x y =>
  simp only [effK] at h ⊢;split at h
  ·exact eqCells_mn (fun t ht=>hk _ ht) h
  ·exact h.elim
 | not x =>
  simp only [effK] at h ⊢;split at h
  ·exact hk _ h
  ·exact h.elim
 | neg x =>
  simp only [effK] at h ⊢;split at h
  ·exact hk _ h
  ·exact h.elim
 | conv k x =>
  simp only [effK] at h ⊢;split at h
  ·exact hk _ h
  ·exact h.elim
 | fa off x =>
  simp only [effK] at h ⊢;split at h
  ·exact hk _ h
  ·exact hk _ h
  ·exact h.elim
 | ia k x y =>
  simp only [effK] at h ⊢;split at h
  ·exact blk_mono (fun B hB=>⟨hB.1,hB.2.1,hB.2.2.1,hk _ hB.2.2.2⟩) h
  ·obtain ⟨h1,h2,h3,c,h4,h5⟩:=h;exact ⟨h1,h2,h3,c,h4,hk _ h5⟩
  ·exact h.elim
 | len x =>
  simp only [effK] at h ⊢;split at h
  ·exact hk _ h
  ·exact hk _ h
  ·exact h.elim
 | copy x y =>
  simp only [effK] at h ⊢;split at h
  ·refine blk_mono (fun B hB=>⟨hB.1,?_⟩) h;have hB:=hB.2;split at hB
   ·exact blk_mono (fun B' hB'=>⟨hB'.1,hB'.2.1,hB'.2.2.1,hk _ hB'.2.2.2⟩) hB
   ·exact ⟨hB.1,hB.2.1,hB.2.2.1,hk _ hB.2.2.2⟩
   ·exact hB.elim
  ·exact h.elim
 | mn x y =>
  simp only [effK] at h ⊢;split at h
  ·exact hk _ h
  ·exact h.elim
 | mx x y =>
  simp only [effK] at h ⊢;split at h
  ·exact hk _ h
  ·exact h.elim
 | ext i x =>
  simp only [effK] at h ⊢;split at h
  ·obtain ⟨y,h1,h2⟩:=h;exact ⟨y,h1,hk _ h2⟩
  ·exact h.elim
 | mkf f l=>exact ⟨h.1,hk _ h.2⟩
 | call f l=>exact h.elim
 | clo x l=>exact h.elim
theorem opK_mono {k:AK} {Q Q':Eff→Prop} (hk:∀ E,Q E→Q' E) (h:opK P σ b k Q):opK P σ b k Q':=by
 cases k with
 | call f l=>exact h.imp (callK_mono hk) (boxK_mono hk)
 | clo x l =>
  simp only [opK] at h ⊢;split at h
  ·exact callK_mono hk h
  ·exact h.elim
 | bsl k n zs ps =>
  rcases h with h|⟨h0,h⟩
  ·exact .inl (effK_mono hk h)
  ·refine .inr ⟨h0,effK_mono (fun E hE => ?_) h⟩;obtain ⟨kids,c,h1,h2,h3⟩:=hE;exact ⟨kids,c,h1,h2,hk _ h3⟩
 | _=>simp only [opK] at h ⊢;exact effK_mono hk h
theorem stepK_mono {x:AOp} {Q Q':St→Prop} (hk:∀ E,Q E→Q' E) (h:stepK P σ b x Q):stepK P σ b x Q':=by
 unfold stepK at h ⊢;have key:((opK P σ b x.k fun E=>Q (σ.app x.d E))∨∃ f l,x.k=.call f l∧inlK P σ f (l.map σ.ev) fun σ' v=>Q (σ'.putO x.d v))→((opK P σ b x.k fun E=>Q' (σ.app x.d E))∨∃ f l,x.k=.call f l∧inlK P σ f (l.map σ.ev) fun σ' v=>Q' (σ'.putO x.d v)):=by
  intro h;rcases h with h|⟨f,l,e,fn,c,rv,rs,h1,h2,h3,h4,h5,h6,h7⟩
  ·exact .inl (opK_mono (fun E hE=>hk _ hE) h)
  ·refine .inr ⟨f,l,e,fn,c,rv,rs,h1,h2,h3,h4,h5,h6,fun G acts=>(h7 G acts).mono fun e σ' hq => ?_⟩;obtain ⟨q1,q2,r,q3,q4⟩:=hq;exact ⟨q1,q2,r,q3,hk _ q4⟩
 split at h
 ·exact key h
 ·split at h
  ·exact ⟨fun e=>key (h.1 e),fun e=>hk _ (h.2 e)⟩
  ·exact hk _ h
  ·exact h.elim
theorem stepTK_mono {x:AOp} {Q Q':Tr→Prop} (hk:∀ E,Q E→Q' E) (h:stepTK P σ b x Q):stepTK P σ b x Q':=by
 unfold stepTK at h ⊢;split at h
 ·exact opK_mono (fun E hE=>hk _ hE) h
 ·split at h
  ·exact ⟨fun e=>opK_mono (fun E hE=>hk _ hE) (h.1 e),fun e=>hk _ (h.2 e)⟩
  ·exact hk _ h
  ·exact h.elim
theorem dregK_mono:∀ {xs:List AOp} {σ:St} {Q Q':List Tr→Prop},(∀ t,Q t→Q' t)→dregK P xs σ Q→dregK P xs σ Q'
 | [],σ,Q,Q',hk,h=>hk _ h
 | x::xs,σ,Q,Q',hk,h=>stepTK_mono (fun t ht=>dregK_mono (fun ts hts=>hk _ hts) ht) h
def St.wS (σ:St) (S:List Env):St:=⟨σ.env,S,σ.H⟩
theorem setParts_wS {S:List Env} {Q:List PV→Prop}:∀ {ps:List (Nat×Nat×Ix)} {zs:List PV},setParts zs σ ps Q→setParts zs (σ.wS S) ps Q
 | [],zs,h=>h
 | (off,n,x)::r,zs,h=>by
  obtain ⟨c,h1,h2,h3,h⟩:=h;exact ⟨c,h1,h2,h3,setParts_wS h⟩
theorem setElems_wS {S:List Env} {k:Nat} {Q:List (List PV)→Prop}:∀ {ps:List (Nat×Ix)} {l:List (List PV)},setElems k l σ ps Q→setElems k l (σ.wS S) ps Q
 | [],zs,h=>h
 | (i,x)::r,zs,h=>by
  obtain ⟨c,h1,h2,h3,h⟩:=h;exact ⟨c,h1,h2,h3,setElems_wS h⟩
theorem evs_wS {S:List Env}:∀ (l:List Ix),evs (σ.wS S) l=evs σ l
 | []=>rfl
 | x::r=>by simp only [evs,evs_wS r];rfl
theorem effK_wS {S:List Env} {k:AK} {Q:Eff→Prop} (h:effK σ b k Q):effK (σ.wS S) b k Q:=by
 cases k with
 | build zs ps=>exact setParts_wS h
 | bsl k n zs ps=>exact ⟨h.1,setElems_wS h.2⟩
 | mkf f l =>
  simp only [effK,evs_wS] at h ⊢;exact h
 | _=>exact h
theorem vc_wS {S:List Env} (p:PV):vc (σ.wS S) p=vc σ p:=rfl
theorem vcL_wS {S:List Env}:∀ (l:List PV),vcL (σ.wS S) l=vcL σ l
 | []=>rfl
 | p::r=>by simp only [vcL,vc_wS,vcL_wS r]
theorem vwP_wS {S:List Env} {p x:PV} {K:List Nat→Prop} (h:vwP σ p x K):vwP (σ.wS S) p x K:=by
 unfold vwP at h ⊢;split at h<;>first|exact h|skip
 ·rename_i id full e j;simp only [vcL_wS] at h ⊢;exact h
theorem vwL_wS {S:List Env}:∀ {ps xs:List PV} {K:List Nat→Prop},vwL σ ps xs K→vwL (σ.wS S) ps xs K
 | [],[],K,h=>h
 | [],_::_,K,h=>h.elim
 | _::_,[],K,h=>h.elim
 | p::ps,x::xs,K,h=>by
  have h1:=vwP_wS (S:=S) h;simp only [vwL];exact vwP_mono (fun l hl=>vwL_wS hl) h1
theorem vc1_wS {S:List Env} (p:PV):vc1 (σ.wS S) p=vc1 σ p:=by
 cases p with
 | ptr id full e j =>
  simp only [vc1,vcL_wS];rfl
 | _=>rfl
theorem vcL1_wS {S:List Env}:∀ (l:List PV),vcL1 (σ.wS S) l=vcL1 σ l
 | []=>rfl
 | p::r=>by simp only [vcL1,vc1_wS,vcL1_wS r]
theorem vwQ_wS {S:List Env} {p x:PV} {K:List Nat→Prop} (h:vwQ σ p x K):vwQ (σ.wS S) p x K:=by
 unfold vwQ at h ⊢;split at h
 ·simp only [vcL1_wS] at h ⊢;exact h
 ·exact vwP_wS h
theorem vwQL_wS {S:List Env}:∀ {ps xs:List PV} {K:List Nat→Prop},vwQL σ ps xs K→vwQL (σ.wS S) ps xs K
 | [],[],K,h=>h
 | [],_::_,K,h=>h.elim
 | _::_,[],K,h=>h.elim
 | p::ps,x::xs,K,h=>by
  have h1:=vwQ_wS (S:=S) h;simp only [vwQL];exact vwQ_mono (fun l hl=>vwQL_wS hl) h1
theorem vwR_wS {S:List Env} {r x:R1} {K:List Nat→Prop} (h:vwR σ r x K):vwR (σ.wS S) r x K:=by
 cases r<;>cases x<;>first|exact vwL_wS h|exact h|exact h.imp vwP_wS fun ⟨f,ps,xs,e1,e2,h⟩=>⟨f,ps,xs,e1,e2,vwQL_wS h⟩
theorem mix_wS {S:List Env} {ps qs:List PV} {i l:List Nat} (h:Mix σ ps qs i l):Mix (σ.wS S) ps qs i l:=by
 induction h with
 | nil=>exact .nil
 | tk h t ih=>exact .tk h ih
 | vw h hq t ih=>exact .vw h hq ih
 | ig t ih=>exact .ig ih
theorem mixR_wS {S:List Env} {r x:R1} {i l:List Nat} (h:MixR σ r x i l):MixR (σ.wS S) r x i l:=by
 cases r<;>cases x<;>first|exact mix_wS h|exact h
theorem prep_wS {S:List Env}:∀ {is:List RV} {as:List Arg} {Q:List Nat→List Nat→List (Nat×Slot)→Prop},callPrep σ is as Q→callPrep (σ.wS S) is as Q
 | [],[],Q,h=>h
 | ix::is,.v x::as,Q,h=>by
  simp only [callPrep] at h ⊢;obtain ⟨h1,h⟩:=h;refine ⟨h1,?_⟩;split at h
  ·obtain ⟨x',hn',him,h⟩:=h;exact ⟨x',hn',him,vwR_wS (vwR_mono (fun l hl=>prep_wS hl) h)⟩
  ·exact h.elim
 | ix::is,.o x::as,Q,h=>by
  simp only [callPrep] at h ⊢;obtain ⟨h1,h⟩:=h;refine ⟨h1,?_⟩;split at h
  ·obtain ⟨i,l,hm,h⟩:=h;exact ⟨i,l,mixR_wS hm,prep_wS h⟩
  ·exact h.elim
 | ix::is,.w c c'::as,Q,h=>by
  simp only [callPrep] at h ⊢;obtain ⟨h1,h⟩:=h;refine ⟨h1,?_⟩;split at h
  ·rename_i id full e j hx;split at h
   ·rename_i B hs;obtain ⟨h2,ce,h3,h4,h5,h6,h⟩:=h;have hs':(σ.wS S).slot id=.live B:=hs;simp only [hs'];exact ⟨h2,ce,h3,h4,h5,h6,prep_wS h⟩
   ·exact h.elim
  ·exact h.elim
 | [],_::_,Q,h=>h.elim
 | _::_,[],Q,h=>by simp [callPrep] at h
theorem callK_wS {S:List Env} {f:FuncId} {is:List RV} {Q:Eff→Prop} (h:callK P σ b f is Q):callK P (σ.wS S) b f is Q:=by
 obtain ⟨args,res,hc,hp⟩:=h;exact ⟨args,res,hc,prep_wS hp⟩
theorem boxK_wS {S:List Env} {f:FuncId} {is:List RV} {Q:Eff→Prop} (h:boxK P σ b f is Q):boxK P (σ.wS S) b f is Q:=by
 obtain ⟨args,c,hc,ha,hp⟩:=h;exact ⟨args,c,hc,ha,prep_wS hp⟩
theorem opK_wS {S:List Env} {k:AK} {Q:Eff→Prop} (h:opK P σ b k Q):opK P (σ.wS S) b k Q:=by
 cases k with
 | call f l=>exact h.imp callK_wS boxK_wS
 | clo x l =>
  simp only [opK] at h ⊢;split at h
  ·rename_i f m hx;have hx':(σ.wS S).ev1 x=.fn f m:=hx;simp only [hx'];exact callK_wS h
  ·exact h.elim
 | bsl k n zs ps =>
  rcases h with h|⟨h0,h⟩
  ·exact .inl (effK_wS h)
  ·exact .inr ⟨h0,effK_wS h⟩
 | _=>simp only [opK] at h ⊢;exact effK_wS h
theorem setSlots_wS {S:List Env}:∀ (l:List (Nat×Slot)) (σ:St),setSlots (σ.wS S) l=(setSlots σ l).wS S
 | [],σ=>rfl
 | (i,s)::l,σ=>setSlots_wS l (σ.setSlot i s)
theorem putO_wS {S:List Env} (σ:St) (d:Option Nat) (v:RV):(σ.wS S).putO d v=(σ.putO d v).wS S:=by cases d<;>rfl
theorem app_wS {S:List Env} (σ:St) (d:Option Nat) (E:Eff):(σ.wS S).app d E=(σ.app d E).wS S:=by
 rw [app_eq,app_eq,setSlots_wS,putO_wS]
theorem trun_wS {S:List Env} (t:Tr) (σ:St):t.run (σ.wS S)=(t.run σ).wS S:=by
 unfold Tr.run;rw [setSlots_wS,putO_wS]
theorem regK_mono:∀ {xs:List AOp} {σ:St} {Q Q':St→Prop},(∀ t,Q t→Q' t)→regK P xs σ Q→regK P xs σ Q'
 | [],σ,Q,Q',hk,h=>hk _ h
 | x::xs,σ,Q,Q',hk,h=>stepK_mono (fun t ht=>regK_mono hk ht) h
end
def evOs (τ:TSt):List Ix→Option (List TV)
 | []=>some []
 | x::r=>match τ.evO x,evOs τ r with
  | some v,some vs=>some (v::vs)
  | _,_=>none
def capTV:List SC×Option Nat→TV
 | (l,some j)=>.r (.one (.rp l j))
 | (l,none)=>match l with
  | x::_=>.r (.one (.c x))
  | []=>.r (.one (.c .np))
def lkK:List (Nat×Bool)→Nat→Option Bool
 | [],_=>none
 | (d,v)::r,t=>match Nat.beq t d with
  | true=>some v
  | false=>lkK r t
def rmK (d:Nat):List (Nat×Bool)→List (Nat×Bool)
 | []=>[]
 | (e,v)::r=>match Nat.beq e d with
  | true=>rmK d r
  | false=>(e,v)::rmK d r
def delK:Option Nat→List (Nat×Bool)→List (Nat×Bool)
 | some d,l=>rmK d l
 | none,l=>l
def pickK (kn:List (Nat×Bool)) (x y z:Ix):AK:=match x with
 | .t d=>match lkK kn d with
  | some true=>.mv y
  | some false=>.mv z
  | none=>.pick (.t d) y z
 | x=>.pick x y z
def opT {P:Program} (τ:TSt) (kn:List (Nat×Bool)) (tab:List (AEnt P)) (b:Nat) (et:Option Ty) (d:Option Nat) (k:AK) {R:Type} (K:TE→Option R):Option R :=
 match k with
 | .call f l=>match evOs τ l,findE tab f d with
  | some vs,some E=>callT τ tab b E vs K
  | _,_=>none
 | .clo x l=>match τ.ev1 x with
  | .fn f m=>match evOs τ l,findE tab f d with
   | some vs,some E=>match E.s.box with
    | false=>callT τ tab b E (vs++m.map capTV) K
    | true=>none
   | _,_=>none
  | .fv f m a r p=>match evOs τ l with
   | some [v]=>match cellsR a v with
    | some cs=>match viewL τ cs with
     | some (xs,ln)=>match ofV a xs,r.flat&&r.own,allLive τ.h ln with
      | some x,true,true=>bd (p x) fun y=>match cells r y with
       | [z]=>K { v:=.r (.one (.c z)),rd:=ln,g:=τ.g }
       | _=>none
      | _,_,_=>none
     | none=>none
    | none=>none
   | _=>none
  | _=>none
 | .pick x y z=>teff τ b et (pickK kn x y z) K
 | k=>teff τ b et k K
def stepT {P:Program} (τ:TSt) (kn:List (Nat×Bool)) (tab:List (AEnt P)) (x:AOp) (et:Option Ty) {R:Type} (K:TSt→List (Nat×Bool)→List Nat→Option TE→Option R):Option R :=
 let go (kn:List (Nat×Bool)) (rs:List Nat):Option R:=opT τ kn tab τ.h.length et x.d x.k fun te=>K (τ.app x.d te) (delK x.d kn) rs (some te)
 let no (kn:List (Nat×Bool)) (d:Nat):Option R:=K ⟨putT τ.r x.d (.tup []),τ.h,τ.g⟩ (delK x.d kn) [d] none
 match x.g with
 | none=>go kn (ixRegs x.k.ixs)
 | some (d,t)=>match lkK kn d with
  | some v=>match v,t with
   | true,true=>go kn (d::ixRegs x.k.ixs)
   | false,false=>go kn (d::ixRegs x.k.ixs)
   | _,_=>no kn d
  | none=>match lookT τ.r d with
   | .r (.one (.c (.b v)))=>match t with
    | true=>cnd v (go ((d,true)::kn) (d::ixRegs x.k.ixs)) (no ((d,false)::kn) d)
    | false=>cnd v (no ((d,true)::kn) d) (go ((d,false)::kn) (d::ixRegs x.k.ixs))
   | .tup []=>no kn d
   | _=>none
def trOf (x:AOp) (rs:List Nat):Option TE→Tr
 | some te=>⟨x.d,te.img.v,te.img.wh,rs,te.img.rd++te.img.wh.map (·.1)⟩
 | none=>⟨x.d,.tup [],[],rs,[]⟩
def dregT {P:Program} (tab:List (AEnt P)):List (AOp×Option Ty)→List (Nat×Bool)→TSt→{R:Type}→(TSt→List Tr→Option R)→Option R
 | [],kn,τ,_,K=>K τ []
 | (x,et)::r,kn,τ,_,K=>stepT τ kn tab x et fun τ' kn' rs te=>dregT tab r kn' τ' fun τ'' ts=>K τ'' (trOf x rs te::ts)
def dregN {P:Program} (tab:List (AEnt P)):List (AOp×Option Ty)→List (Nat×Bool)→TSt→{R:Type}→(TSt→List (Nat×Bool)→List Tr→Option R)→Option R
 | [],kn,τ,_,K=>K τ kn []
 | (x,et)::r,kn,τ,_,K=>stepT τ kn tab x et fun τ' kn' rs te=>dregN tab r kn' τ' fun τ'' kn'' ts=>K τ'' kn'' (trOf x rs te::ts)
def cellIT:TC→Option TC
 | .c (.nl true k)=>some (.c (.nl false k))
 | .c (.sl true _ _)=>none
 | c=>some c
def cellsIT:List TC→Option (List TC)
 | []=>some []
 | c::r=>match cellIT c,cellsIT r with
  | some d,some s=>some (d::s)
  | _,_=>none
def mkRT:Option Nat→List TC→TR
 | none,l=>.one (l.headD .un)
 | some _,l=>.agg l
def resI1T (τ:TSt):Rk→Option TR
 | .t n=>match lookT τ.r n with
  | .r x=>some x
  | _=>none
 | .c n k=>match lookT τ.r n with
  | .r (.one (.vp id 0))=>match tbAt τ.h id with
   | .var _ cs=>match Nat.beq cs.length (k.getD 1),cellsIT cs with
    | true,some qs=>some (mkRT k qs)
    | _,_=>none
   | _=>none
  | _=>none
def resIT (τ:TSt):List Rk→Option (List TR)
 | []=>some []
 | x::r=>match resI1T τ x,resIT τ r with
  | some y,some s=>some (y::s)
  | _,_=>none
def enR:Nat→List TV→List (Nat×TV)
 | _,[]=>[]
 | i,v::r=>(i,v)::enR (i+1) r
def isRet:Exit→Bool
 | .normal=>true
 | .ret=>true
 | _=>false
def inlT {P:Program} (tab:List (AEnt P)) (x:AOp):Option (InE P×List Ix):=match x.k with
 | .call f l=>match findI tab f x.d with
  | some I=>some (I,l)
  | none=>none
 | _=>none
def KnOk (kn:List (Nat×Bool)) (r:List (Nat×TV)):Prop:=∀ d v,lkK kn d=some v→lookT r d=.r (.one (.c (.b v)))
theorem lkK_rm (d:Nat):∀ (l:List (Nat×Bool)) (e:Nat) (v:Bool),lkK (rmK d l) e=some v→e≠d∧lkK l e=some v
 | [],e,v,h=>by cases h
 | (f,w)::l,e,v,h=>by
  simp only [rmK] at h;split at h
  ·rename_i hf;have hf:=nbe hf;obtain ⟨h1,h2⟩:=lkK_rm d l e v h;refine ⟨h1,?_⟩;simp only [lkK];have:Nat.beq e f=false:=by
    cases hb:Nat.beq e f with
    | false=>rfl
    | true=>exact (h1 ((nbe hb).trans hf)).elim
   rw [this];exact h2
  ·rename_i hf;simp only [lkK] at h ⊢;split at h
   ·rename_i he;have he':=nbe he;refine ⟨fun e' => ?_,h⟩;rw [← he',e',Nat.beq_refl] at hf;cases hf
   ·obtain ⟨h1,h2⟩:=lkK_rm d l e v h;exact ⟨h1,h2⟩
theorem KnOk.put {kn:List (Nat×Bool)} {r:List (Nat×TV)} (h:KnOk kn r) (d:Option Nat) (x:TV):KnOk (delK d kn) (putT r d x):=by
 cases d with
 | none=>exact h
 | some d =>
  intro e v he;obtain ⟨h1,h2⟩:=lkK_rm d kn e v he;show (match Nat.beq e d with|true=>x|false=>lookT r e)=_;have:Nat.beq e d=false:=by
   cases hb:Nat.beq e d with
   | false=>rfl
   | true=>exact (h1 (nbe hb)).elim
  rw [this];exact h e v h2
theorem KnOk.cons {kn:List (Nat×Bool)} {r:List (Nat×TV)} (h:KnOk kn r) {d:Nat} {v:Bool} (hd:lookT r d=.r (.one (.c (.b v)))):KnOk ((d,v)::kn) r:=by
 intro e w he;simp only [lkK] at he;split at he
 ·rename_i hb;rw [nbe hb];injection he with he;subst he;exact hd
 ·exact h e w he
section
variable {P:Program} {τ:TSt} {n b:Nat} {kn:List (Nat×Bool)} {tab:List (AEnt P)} {R:Type} {K:TE→Option R} {r:R}
theorem evOs_ok (hI:Inv P τ):∀ {l:List Ix} {vs:List TV},evOs τ l=some vs→l.map (img n τ).ev=vs.map TV.rv∧∀ v∈vs,∀ c∈v.cs,cok P τ.h τ.g c
 | [],vs,h=>by injection h with h;subst h;simp
 | x::l,vs,h=>by
  simp only [evOs] at h;split at h
  ·rename_i v vs' h1 h2;injection h with h;subst h;obtain ⟨e1,k1⟩:=evO_ok (n:=n) hI h1;obtain ⟨e2,k2⟩:=evOs_ok hI h2;refine ⟨by simp [e1,e2],fun v' hv' => ?_⟩;rcases List.mem_cons.1 hv' with rfl|hv'
   ·exact k1
   ·exact k2 v' hv'
  ·cases h
theorem capTV_rv (z:List SC×Option Nat):(capTV z).rv=.r (.one (capPV z)):=by
 obtain ⟨l,j⟩:=z;cases j with
 | some j=>rfl
 | none=>cases l<;>rfl
theorem capTV_cok {h:List TB} {g:Nat} (z:List SC×Option Nat):∀ c∈(capTV z).cs,cok P h g c:=by
 intro c hc;obtain ⟨l,j⟩:=z;cases j with
 | some j =>
  have:c=.rp l j:=by simpa [capTV,TV.cs,TR.cs] using hc
  subst this;trivial
 | none =>
  cases l with
  | nil =>
   have:c=.c .np:=by simpa [capTV,TV.cs,TR.cs] using hc
   subst this;trivial
  | cons x l =>
   have:c=.c x:=by simpa [capTV,TV.cs,TR.cs] using hc
   subst this;trivial
theorem prep_frz {σ:St}:∀ {m:List PV},(∀ p∈m,NoRef p∧p.frz=true)→∀ {K:List Nat→List Nat→List (Nat×Slot)→Prop},K [] [] []→callPrep σ (m.map fun p=>.r (.one p)) (m.map fun p=>.v (.one p)) K
 | [],_,K,h=>h
 | p::m,hm,K,h=>⟨fun q hq=>by
   have:q=p:=by simpa [R1.cs] using hq
   subst this;exact (hm q (by simp)).1,.one p,fun q hq=>by
   have:q=p:=by simpa [R1.cs] using hq
   subst this;exact (hm q (by simp)).1,ImpR.refl _,.inl<|vwP_frz (K:=fun l=>callPrep σ (m.map fun p=>RV.r (.one p)) (m.map fun p=>Arg.v (.one p)) fun tk ln wr=>K tk (l++ln) wr) (hm p (by simp)).2 (prep_frz (fun q hq=>hm q (by simp [hq])) h)⟩
theorem cells_flat:∀ (t:Ty),t.flat=true→∀ (v:Den t),∀ x∈cells t v,∀ u l,x≠.sl true u l
 | .int _,_,_,x,h=>by simp only [cells,List.mem_singleton] at h;subst h;simp
 | .bool,_,_,x,h=>by simp only [cells,List.mem_singleton] at h;subst h;simp
 | .str,_,_,x,h=>by simp only [cells,List.mem_singleton] at h;subst h;simp
 | .vw _,_,_,x,h=>by simp only [cells,List.mem_singleton] at h;subst h;simp
 | .pr a b,hf,v,x,h=>by
  simp only [Ty.flat,bae] at hf;simp only [cells,lma] at h;exact h.elim (cells_flat a hf.1 v.1 x) (cells_flat b hf.2 v.2 x)
theorem opT_ok (hI:Inv P τ) (hb:τ.h.length≤b) (hkn:KnOk kn τ.r) {et:Option Ty} {d:Option Nat} {k:AK} (h:opT τ kn tab b et d k K=some r):opK P (img n τ) b k fun E=>∃ te,E=te.img∧OkE P τ te∧K te=some r:=by
 cases k with
 | call f l =>
  simp only [opT] at h;split at h
  ·rename_i vs E h1 h2;obtain ⟨e1,k1⟩:=evOs_ok (n:=n) hI h1;have e2:=findE_ok h2;subst e2;simp only [opK,e1];rcases callT_ok (n:=n) hI hb k1 h with ⟨_,k⟩|⟨_,k⟩
   ·exact .inl k
   ·exact .inr k
  ·cases h
 | clo x l =>
  simp only [opT] at h;split at h
  ·rename_i f m hx;obtain ⟨e0,_⟩:=ev1_ok (n:=n) hI hx (by simp);split at h
   ·rename_i vs E h1 h2;split at h
    ·rename_i hbox;obtain ⟨e1,k1⟩:=evOs_ok (n:=n) hI h1;have e2:=findE_ok h2;subst e2;simp only [opK,e0,TC.pv,e1];have e3:(vs++m.map capTV).map TV.rv=vs.map TV.rv++(m.map capPV).map fun p=>RV.r (.one p):=by
      simp [capTV_rv,Function.comp_def]
     have hvs:∀ v∈vs++m.map capTV,∀ c∈v.cs,cok P τ.h τ.g c:=by
      intro v hv;rcases lma.1 hv with hv|hv
      ·exact k1 v hv
      ·obtain ⟨z,_,rfl⟩:=List.mem_map.1 hv;exact capTV_cok z
     rcases callT_ok (n:=n) hI hb hvs h with ⟨_,k⟩|⟨k0,_⟩
     ·rw [e3] at k;exact k
     ·rw [hbox] at k0;cases k0
    ·cases h
   ·cases h
  ·rename_i f m a r' p hx;obtain ⟨e0,k0⟩:=ev1_ok (n:=n) hI hx (by simp);split at h
   ·rename_i v h1;obtain ⟨e1,k1⟩:=evOs_ok (n:=n) hI h1;split at h
    ·rename_i cs hcs;split at h
     ·rename_i xs ln hxs;split at h
      ·rename_i x hx hfl hlv;rw [bae] at hfl;obtain ⟨hfl,how⟩:=hfl;obtain ⟨y,hy,h⟩:=bd_some h;split at h
       ·rename_i z hz;obtain ⟨hm,hcon⟩:=k0;have hc:=hcon x y hy;simp only [opK,e0,TC.pv,e1,List.map_cons,List.map_nil,List.singleton_append];have hag:r'.agg=false:=by
         have:=cells_len r' y;rw [hz] at this;exact agg_of_one this.symm
        have hen:enc r' y=[z.pv]:=by rw [← cells_pv,hz];rfl
        refine ⟨_,_,hc,?_⟩;have hr1:mkR1 r' (enc r' y)=.one z.pv:=by rw [mkR1_one hag,hen];rfl
        have hth:thawRs b [mkR1 r' (enc r' y)]=([.one z.pv],[]):=by
         have hzz:=cells_flat r' hfl y z (by rw [hz];simp);rw [hr1];have:thaw b [z.pv]=([z.pv],[]):=by
          have:=tthaw_ok 0 b [.c z];simp only [List.map_cons,List.map_nil,TC.pv] at this;rw [this];cases z with
          | sl o u l=>cases o with
           | true=>exact (hzz _ _ rfl).elim
           | false=>rfl
          | nl o k =>
           exfalso;have h9:SC.nl o k∈cells r' y:=by rw [hz];simp
           have h8:∀ (t:Ty) (v:Den t),SC.nl o k∉cells t v:=by
            intro t;induction t with
            | pr a b ih1 ih2=>intro v hm;simp only [cells,lma] at hm;exact hm.elim (ih1 _) (ih2 _)
            | _=>intro v hm;simp [cells] at hm
           exact h8 _ _ h9
          | _=>rfl
         simp only [thawRs,thawR,R1.cs,this];rfl
        refine bindV_ok (n:=n) hI (k1 v (by simp)) hcs hxs hx (prep_frz hm ⟨List.nodup_nil,List.nodup_nil,by simp,fun i hi=>⟨?_,by simp,by simp⟩,.inr ⟨?_,?_⟩,?_,?_⟩)
        ·rw [List.append_nil] at hi;rw [img_slot];exact liveB_slot (allLive_ok hlv i hi)
        ·intro q hq p hp;have:q=mkR1 r' (enc r' y):=by simpa using hq
         subst this;rw [mkR1_cs _ _ (enc_len _ _)] at hp;exact enc_no _ how _ p hp
        ·have:∀ l:List PV,wArgs (l.map fun q=>Arg.v (.one q))=[]:=by intro l;induction l with|nil=>rfl|cons a l ih=>exact ih
         intro q hq;have hq:q∈wArgs (m.map fun q=>Arg.v (.one q)):=hq;rw [this] at hq;cases hq
        ·rw [hth];simp
        ·rw [hth];refine fin1 hI (c:=.c z) ?_ trivial h;simp [resRV,deads,TC.pv]
       ·cases h
      ·cases h
     ·cases h
    ·cases h
   ·cases h
  ·cases h
 | pick x y z =>
  simp only [opT,pickK] at h;split at h
  ·rename_i d;split at h
   ·rename_i hk;have e0:(img n τ).ev1 (.t d)=.b true:=by
     show (match (img n τ).reg d with|.r (.one p)=>p|_=>.un)=_;rw [img_reg,hkn d true hk];rfl
    simp only [opK,effK,e0,if_true];exact teff_ok (n:=n) (et:=et) (k:=.mv y) hI hb h
   ·rename_i hk;have e0:(img n τ).ev1 (.t d)=.b false:=by
     show (match (img n τ).reg d with|.r (.one p)=>p|_=>.un)=_;rw [img_reg,hkn d false hk];rfl
    simp only [opK,effK,e0,bfe,if_false];exact teff_ok (n:=n) (et:=et) (k:=.mv z) hI hb h
   ·exact teff_ok (et:=et) hI hb h
  ·exact teff_ok (et:=et) hI hb h
 | _=>exact teff_ok (et:=et) hI hb h
theorem putT_none {d:Option Nat} {v:TV}:(img n τ).putO d v.rv=img n ⟨putT τ.r d v,τ.h,τ.g⟩:=by cases d<;>rfl
theorem inv_put (hI:Inv P τ) (d:Option Nat):Inv P ⟨putT τ.r d (.tup []),τ.h,τ.g⟩ where
 regs:=fun e he c hc=>by
  cases d with
  | none=>exact hI.regs e he c hc
  | some t =>
   rcases List.mem_cons.1 he with rfl|he
   ·simp [TV.cs] at hc
   ·exact hI.regs e he c hc
 blks:=hI.blks
def StepP (P:Program) (n:Nat) (τ:TSt) (x:AOp) (K:TSt→List (Nat×Bool)→List Nat→Option TE→Option R) (r:R) (t:Tr):Prop :=
 ∃ τ' kn' rs te,t=trOf x rs te∧t.run (img n τ)=img n τ'∧(Inv P τ'∧HLe τ.h τ.g τ'.h τ'.g)∧(∃ v,τ'.r=putT τ.r x.d v)∧KnOk kn' τ'.r∧K τ' kn' rs te=some r
theorem HLe.trans {h h' h'':List TB} {g g' g'':Nat} (a:HLe h g h' g') (b:HLe h' g' h'' g''):HLe h g h'' g'' :=
 ⟨Nat.le_trans a.1 b.1,fun id v m hv e=>a.2.1 id v m hv (b.2.1 id v m (Nat.lt_of_lt_of_le hv a.1) e),fun id v m q hv e=>a.2.2 id v m q hv (b.2.2 id v m q (Nat.lt_of_lt_of_le hv a.1) e)⟩
theorem reg_wS {S:List Env} {σ:St} (t:Nat):(σ.wS S).reg t=σ.reg t:=rfl
theorem stepT_ok (S:List Env) (hI:Inv P τ) (hkn:KnOk kn τ.r) {x:AOp} {et:Option Ty} {K:TSt→List (Nat×Bool)→List Nat→Option TE→Option R} (h:stepT τ kn tab x et K=some r) :
  stepTK P ((img n τ).wS S) (img n τ).H.length x (StepP P n τ x K r)∧stepK P ((img n τ).wS S) (img n τ).H.length x (fun σ'=>∃ τ',σ'=(img n τ').wS S∧(Inv P τ'∧HLe τ.h τ.g τ'.h τ'.g)∧(∃ v,τ'.r=putT τ.r x.d v)∧∃ kn' rs te,KnOk kn' τ'.r∧K τ' kn' rs te=some r):=by
 have go:∀ {kn:List (Nat×Bool)} {rs:List Nat},KnOk kn τ.r→(opT τ kn tab τ.h.length et x.d x.k fun te=>K (τ.app x.d te) (delK x.d kn) rs (some te))=some r →
   opK P ((img n τ).wS S) (img n τ).H.length x.k (fun E=>StepP P n τ x K r ⟨x.d,E.v,E.wh,rs,E.rd++E.wh.map (·.1)⟩)∧opK P ((img n τ).wS S) (img n τ).H.length x.k (fun E=>∃ τ',((img n τ).wS S).app x.d E=(img n τ').wS S∧(Inv P τ'∧HLe τ.h τ.g τ'.h τ'.g)∧(∃ v,τ'.r=putT τ.r x.d v)∧∃ kn' rs te,KnOk kn' τ'.r∧K τ' kn' rs te=some r):=by
  intro kn rs hkn h;rw [img_len];have:=opT_ok (n:=n) hI (Nat.le_refl _) hkn h;refine ⟨opK_wS (opK_mono (fun E hE => ?_) this),opK_wS (opK_mono (fun E hE => ?_) this)⟩
  ·obtain ⟨te,rfl,ho,hk⟩:=hE;refine ⟨τ.app x.d te,delK x.d kn,rs,some te,rfl,?_,⟨inv_app hI ho x.d,by cases x.d<;>exact ho.le⟩,⟨te.v,rfl⟩,hkn.put x.d te.v,hk⟩;rw [← img_app ho x.d,app_eq];rfl
  ·obtain ⟨te,rfl,ho,hk⟩:=hE;exact ⟨τ.app x.d te,by rw [app_wS,img_app ho x.d],⟨inv_app hI ho x.d,by cases x.d<;>exact ho.le⟩,⟨te.v,rfl⟩,_,_,_,hkn.put x.d te.v,hk⟩
 have no:∀ {kn:List (Nat×Bool)} {d:Nat},KnOk kn τ.r→K ⟨putT τ.r x.d (.tup []),τ.h,τ.g⟩ (delK x.d kn) [d] none=some r →
   StepP P n τ x K r ⟨x.d,.tup [],[],[d],[]⟩∧∃ τ',((img n τ).wS S).putO x.d (.tup [])=(img n τ').wS S∧(Inv P τ'∧HLe τ.h τ.g τ'.h τ'.g)∧(∃ v,τ'.r=putT τ.r x.d v)∧∃ kn' rs te,KnOk kn' τ'.r∧K τ' kn' rs te=some r:=by
  intro kn d hkn hk;have e:(img n τ).putO x.d (.tup [])=img n ⟨putT τ.r x.d (.tup []),τ.h,τ.g⟩:=putT_none (v:=.tup []);exact ⟨⟨_,_,[d],none,rfl,e,⟨inv_put hI x.d,HLe.refl⟩,⟨_,rfl⟩,hkn.put x.d _,hk⟩,_,by rw [putO_wS,e],⟨inv_put hI x.d,HLe.refl⟩,⟨_,rfl⟩,_,_,_,hkn.put x.d _,hk⟩
 simp only [stepT] at h;unfold stepTK stepK;split at h
 ·rename_i hg;simp only [hg];exact ⟨(go hkn h).1,.inl (go hkn h).2⟩
 ·rename_i d t hg;simp only [hg,reg_wS,img_reg];split at h
  ·rename_i v hv;have hv:=hkn d v hv;simp only [hv,TV.rv,TR.r1,TC.pv,SC.pv];split at h
   ·exact ⟨⟨fun _=>(go hkn h).1,fun e=>(e rfl).elim⟩,⟨fun _=>.inl (go hkn h).2,fun e=>(e rfl).elim⟩⟩
   ·exact ⟨⟨fun _=>(go hkn h).1,fun e=>(e rfl).elim⟩,⟨fun _=>.inl (go hkn h).2,fun e=>(e rfl).elim⟩⟩
   ·rename_i h1 h2;have hne:v≠t:=by
     intro e;subst e;cases v with
     | true=>exact h1 rfl rfl
     | false=>exact h2 rfl rfl
    exact ⟨⟨fun e=>(hne e).elim,fun _=>(no hkn h).1⟩,⟨fun e=>(hne e).elim,fun _=>(no hkn h).2⟩⟩
  ·split at h
   ·rename_i v hv;simp only [hv,TV.rv,TR.r1,TC.pv,SC.pv];split at h
    ·rcases cnd_some h with ⟨rfl,h⟩|⟨rfl,h⟩
     ·exact ⟨⟨fun _=>(go (hkn.cons hv) h).1,fun e=>(e rfl).elim⟩,⟨fun _=>.inl (go (hkn.cons hv) h).2,fun e=>(e rfl).elim⟩⟩
     ·exact ⟨⟨fun e=>(by cases e),fun _=>(no (hkn.cons hv) h).1⟩,⟨fun e=>(by cases e),fun _=>(no (hkn.cons hv) h).2⟩⟩
    ·rcases cnd_some h with ⟨rfl,h⟩|⟨rfl,h⟩
     ·exact ⟨⟨fun e=>(by cases e),fun _=>(no (hkn.cons hv) h).1⟩,⟨fun e=>(by cases e),fun _=>(no (hkn.cons hv) h).2⟩⟩
     ·exact ⟨⟨fun _=>(go (hkn.cons hv) h).1,fun e=>(e rfl).elim⟩,⟨fun _=>.inl (go (hkn.cons hv) h).2,fun e=>(e rfl).elim⟩⟩
   ·rename_i hv;simp only [hv,TV.rv,List.map_nil];exact no hkn h
   ·cases h
def Stable (wr:List Nat) (J:(Nat→TV)→Prop):Prop:=∀ f d v,d∈wr→J f→J fun t=>if t=d then v else f t
theorem lookT_put (r:List (Nat×TV)) (d:Nat) (v:TV):lookT (putT r (some d) v)=fun t=>if t=d then v else lookT r t:=by
 funext t
 simp only [putT,lookT];by_cases h:t=d
 ·subst h;simp [Nat.beq_refl]
 ·have:Nat.beq t d=false:=by
   cases hb:Nat.beq t d with
   | false=>rfl
   | true=>exact (h (nbe hb)).elim
  simp [h,this]
theorem Stable.put {wr:List Nat} {J:(Nat→TV)→Prop} (hs:Stable wr J) {τ':TSt} {d:Option Nat} (hd:∀ t,d=some t→t∈wr) (hr:∃ v,τ'.r=putT τ.r d v) (h:J (lookT τ.r)):J (lookT τ'.r):=by
 obtain ⟨v,hr⟩:=hr;rw [hr];cases d with
 | none=>exact h
 | some t=>rw [lookT_put];exact hs _ _ _ (hd t rfl) h
def wrOps:List (AOp×Option Ty)→List Nat
 | []=>[]
 | (x,_)::r=>match x.d with
  | some d=>d::wrOps r
  | none=>wrOps r
def opsOf (l:List (AOp×Option Ty)):List AOp:=l.map (·.1)
theorem wrOps_mem {x:AOp} {et:Option Ty} {ops:List (AOp×Option Ty)}:(∀ t,x.d=some t→t∈wrOps ((x,et)::ops))∧∀ t,t∈wrOps ops→t∈wrOps ((x,et)::ops):=by
 constructor
 ·intro t e;simp [wrOps,e]
 ·intro t ht;simp only [wrOps];cases x.d<;>simp [ht]
theorem Stable.sub {w w':List Nat} {J:(Nat→TV)→Prop} (hs:Stable w' J) (h:∀ t∈w,t∈w'):Stable w J:=fun f d v hd hj=>hs f d v (h d hd) hj
theorem dregT_ok (S:List Env) {J:(Nat→TV)→Prop}:∀ {ops:List (AOp×Option Ty)} {kn:List (Nat×Bool)} {τ:TSt} {K:TSt→List Tr→Option R},Stable (wrOps ops) J→J (lookT τ.r)→Inv P τ→KnOk kn τ.r→dregT tab ops kn τ K=some r→dregK P (opsOf ops) ((img n τ).wS S) fun ts=>∃ τ',runP (fun _=>true) ts ((img n τ).wS S)=(img n τ').wS S∧(Inv P τ'∧HLe τ.h τ.g τ'.h τ'.g)∧J (lookT τ'.r)∧K τ' ts=some r
 | [],kn,τ,K,hs,hJ,hI,hkn,h=>⟨τ,rfl,⟨hI,HLe.refl⟩,hJ,h⟩
 | (x,et)::ops,kn,τ,K,hs,hJ,hI,hkn,h=>by
  have h1:=(stepT_ok (n:=n) S hI hkn h).1;obtain ⟨w1,w2⟩:=wrOps_mem (x:=x) (et:=et) (ops:=ops);show stepTK P ((img n τ).wS S) _ x fun t=>dregK P (opsOf ops) (t.run ((img n τ).wS S)) _
  refine stepTK_mono (fun t hq => ?_) h1;obtain ⟨τ',kn',rs,te,ht,hrun,⟨hI',hle⟩,hv,hkn',hk⟩:=hq;rw [trun_wS,hrun];refine dregK_mono (fun ts hq => ?_) (dregT_ok S (hs.sub w2) (hs.put w1 hv hJ) hI' hkn' hk);obtain ⟨τ'',k1,⟨k2,k5⟩,k3,k4⟩:=hq;exact ⟨τ'',by rw [runP_cons,trun_wS,hrun,k1],⟨k2,hle.trans k5⟩,k3,by rw [ht];exact k4⟩
theorem dregN_ok (S:List Env) {J:(Nat→TV)→Prop}:∀ {ops:List (AOp×Option Ty)} {kn:List (Nat×Bool)} {τ:TSt} {K:TSt→List (Nat×Bool)→List Tr→Option R},Stable (wrOps ops) J→J (lookT τ.r)→Inv P τ→KnOk kn τ.r→dregN tab ops kn τ K=some r→dregK P (opsOf ops) ((img n τ).wS S) fun ts=>∃ τ' kn',runP (fun _=>true) ts ((img n τ).wS S)=(img n τ').wS S∧(Inv P τ'∧HLe τ.h τ.g τ'.h τ'.g)∧J (lookT τ'.r)∧KnOk kn' τ'.r∧K τ' kn' ts=some r
 | [],kn,τ,K,hs,hJ,hI,hkn,h=>⟨τ,kn,rfl,⟨hI,HLe.refl⟩,hJ,hkn,h⟩
 | (x,et)::ops,kn,τ,K,hs,hJ,hI,hkn,h=>by
  have h1:=(stepT_ok (n:=n) S hI hkn h).1;obtain ⟨w1,w2⟩:=wrOps_mem (x:=x) (et:=et) (ops:=ops);show stepTK P ((img n τ).wS S) _ x fun t=>dregK P (opsOf ops) (t.run ((img n τ).wS S)) _
  refine stepTK_mono (fun t hq => ?_) h1;obtain ⟨τ',kn',rs,te,ht,hrun,⟨hI',hle⟩,hv,hkn',hk⟩:=hq;rw [trun_wS,hrun];refine dregK_mono (fun ts hq => ?_) (dregN_ok S (hs.sub w2) (hs.put w1 hv hJ) hI' hkn' hk);obtain ⟨τ'',kn'',k1,⟨k2,k5⟩,k3,k6,k4⟩:=hq;exact ⟨τ'',kn'',by rw [runP_cons,trun_wS,hrun,k1],⟨k2,hle.trans k5⟩,k3,k6,by rw [ht];exact k4⟩
theorem cellIT_ok {c d:TC} (h:cellIT c=some d):cellI c.pv=some d.pv∧∀ h' g',cok P h' g' c→cok P h' g' d:=by
 unfold cellIT at h;split at h
 ·injection h with h;subst h;exact ⟨rfl,fun _ _ _=>trivial⟩
 ·cases h
 ·rename_i h1 h2;injection h with h;subst h;refine ⟨?_,fun _ _ k=>k⟩;cases c with
  | c x =>
   cases x with
   | sl o t l =>
    cases o with
    | true=>exact (h2 t l rfl).elim
    | false=>rfl
   | nl o k =>
    cases o with
    | true=>exact (h1 k rfl).elim
    | false=>rfl
   | _=>rfl
  | _=>rfl
theorem cellsIT_ok:∀ {l m:List TC},cellsIT l=some m→cellsI (l.map TC.pv)=some (m.map TC.pv)∧∀ h' g',(∀ c∈l,cok P h' g' c)→∀ c∈m,cok P h' g' c
 | [],m,h=>by injection h with h;subst h;exact ⟨rfl,by simp⟩
 | c::l,m,h=>by
  simp only [cellsIT] at h;split at h
  ·rename_i d s h1 h2;injection h with h;subst h;obtain ⟨a1,a2⟩:=cellIT_ok (P:=P) h1;obtain ⟨b1,b2⟩:=cellsIT_ok h2;refine ⟨by simp only [List.map_cons,cellsI,a1,b1],fun h' g' hc c hm => ?_⟩;rcases List.mem_cons.1 hm with rfl|hm
   ·exact a2 _ _ (hc _ (by simp))
   ·exact b2 _ _ (fun c hc'=>hc c (by simp [hc'])) c hm
  ·cases h
theorem lookT_mem:∀ (l:List (Nat×TV)) (t:Nat),lookT l t=.un∨∃ e∈l,e.1=t∧lookT l t=e.2
 | [],t=>.inl rfl
 | (s,v)::l,t=>by
  simp only [lookT];split
  ·rename_i h;have:=nbe h;exact .inr ⟨(s,v),by simp,this.symm,rfl⟩
  ·rcases lookT_mem l t with k|⟨e,he,k1,k2⟩
   ·exact .inl k
   ·exact .inr ⟨e,by simp [he],k1,k2⟩
theorem resI1T_ok (S:List Env) (hI:Inv P τ) {x:Rk} {y:TR} (h:resI1T τ x=some y):resI1 ((img n τ).wS S) x=some y.r1∧∀ c∈y.cs,cok P τ.h τ.g c:=by
 unfold resI1T at h;split at h
 ·rename_i t;split at h
  ·rename_i z hz;injection h with h;subst h;refine ⟨?_,fun c hc => ?_⟩
   ·simp only [resI1,reg_wS,img_reg,hz,TV.rv]
   ·rcases lookT_mem τ.r t with k|⟨e,he,k1,k2⟩
    ·rw [hz] at k;cases k
    ·rw [hz] at k2;exact hI.regs e he c (by rw [← k2];exact hc)
  ·cases h
 ·rename_i t k;split at h
  ·rename_i id hz;split at h
   ·rename_i w cs hb;split at h
    ·rename_i qs hl hq;injection h with h;subst h;have hl:=nbe hl;obtain ⟨e1,e2⟩:=cellsIT_ok (P:=P) hq;have hreg:((img n τ).wS S).ev1 (.t t)=.ptr id 1 0 0:=by
      show (match ((img n τ).wS S).reg t with|.r (.one p)=>p|_=>.un)=_;rw [reg_wS,img_reg,hz];rfl
     have hsl:((img n τ).wS S).slot id=.live ⟨if w then 2 else 1,cs.length,[],[cs.map TC.pv]⟩:=by
      show (img n τ).slot id=_;rw [img_slot,hb];rfl
     have hbk:=hI.blks id;rw [hb] at hbk;refine ⟨?_,?_⟩
     ·simp only [resI1,hreg,hsl,List.length_map,hl,if_true,e1];cases k with
      | none =>
       simp only [mkR,mkRT,TR.r1];cases qs<;>rfl
      | some m=>rfl
     ·intro c hc;cases k with
      | none =>
       have hcs:qs.length=1:=by
        have:=cellsI_len e1;simp only [List.length_map] at this;rw [this,hl];rfl
       match qs,hcs with
       | [q],_=>exact e2 _ _ hbk c (by simpa [mkRT,TR.cs] using hc)
      | some m=>exact e2 _ _ hbk c hc
    ·cases h
   ·cases h
  ·cases h
theorem resIT_ok (S:List Env) (hI:Inv P τ):∀ {l:List Rk} {ys:List TR},resIT τ l=some ys→resI ((img n τ).wS S) l=some (ys.map TR.r1)∧∀ y∈ys,∀ c∈y.cs,cok P τ.h τ.g c
 | [],ys,h=>by injection h with h;subst h;exact ⟨rfl,by simp⟩
 | x::l,ys,h=>by
  simp only [resIT] at h;split at h
  ·rename_i y s h1 h2;injection h with h;subst h;obtain ⟨a1,a2⟩:=resI1T_ok (n:=n) S hI h1;obtain ⟨b1,b2⟩:=resIT_ok S hI h2;refine ⟨by simp only [resI,a1,b1,List.map_cons],fun z hz => ?_⟩;rcases List.mem_cons.1 hz with rfl|hz
   ·exact a2
   ·exact b2 z hz
  ·cases h
theorem enR_rv:∀ (i:Nat) (vs:List TV),(enR i vs).map (fun e=>(e.1,e.2.rv))=regsI i (vs.map TV.rv)
 | _,[]=>rfl
 | i,v::r=>by simp only [enR,List.map_cons,regsI,enR_rv (i+1) r]
theorem enR_mem:∀ {i:Nat} {vs:List TV} {e:Nat×TV},e∈enR i vs→e.2∈vs
 | _,[],e,h=>by cases h
 | i,v::r,e,h=>by
  rcases List.mem_cons.1 h with rfl|h
  ·simp
  ·simp [enR_mem h]
end
inductive Rn (ρ:Nat→Nat) (σ':St):PV→PV→Prop
 | nr {p:PV} (h:NoRef p):Rn ρ σ' p p
 | ref {i lo len full:Nat} (h:σ'.slot i≠.fresh):Rn ρ σ' (.ref (ρ i) lo len full) (.ref i lo len full)
 | ptr {i full e j:Nat} (h:σ'.slot i≠.fresh):Rn ρ σ' (.ptr (ρ i) full e j) (.ptr i full e j)
 | un {p:PV} (h:∀ k l,p≠.vs true k l):Rn ρ σ' p .un
def RnR1 (ρ:Nat→Nat) (σ':St):R1→R1→Prop
 | .one p,.one q=>Rn ρ σ' p q
 | .agg l,.agg m=>All2 (Rn ρ σ') l m
 | _,_=>False
def RnRV (ρ:Nat→Nat) (σ':St):RV→RV→Prop
 | _,.un=>True
 | .r x,.r y=>RnR1 ρ σ' x y
 | .tup l,.tup m=>All2 (RnR1 ρ σ') l m
 | _,_=>False
theorem All2.get {α β:Type} {R:α→β→Prop} {l:List α} {m:List β} (h:All2 R l m):l.length=m.length∧∀ (j:Nat) (a:α) (b:β),l[j]? = some a→m[j]? = some b→R a b:=by
 induction h with
 | nil=>exact ⟨rfl,by simp⟩
 | cons h t ih =>
  refine ⟨by simp [ih.1],fun j a b e1 e2 => ?_⟩;cases j with
  | zero=>simp at e1 e2;subst e1 e2;exact h
  | succ j=>exact ih.2 j a b (by simpa using e1) (by simpa using e2)
theorem All2.app {α β:Type} {R:α→β→Prop} {l l':List α} {m m':List β} (h:All2 R l m) (k:All2 R l' m'):All2 R (l++l') (m++m'):=by
 induction h with
 | nil=>exact k
 | cons h t ih=>exact .cons h ih
theorem All2.flat {α β:Type} {R:α→β→Prop} {l:List (List α)} {m:List (List β)} (h:All2 (All2 R) l m):All2 R l.flatten m.flatten:=by
 induction h with
 | nil=>exact .nil
 | cons h t ih=>exact h.app ih
section
variable {P:Program} {G:Fr} {X X':Ctx} {F F':Nat→List Nat} {σ σ':St} {a:Act} {acts:List Act} {w w':World} {M M' N:Nat→Prop} {ρ:Nat→Nat}
structure RnS (ρ:Nat→Nat) (σ σ':St):Prop where
 n:σ'.env.n=σ.env.n
 s:σ.sus=[]
 s':σ'.sus=[]
 reg:∀ t,RnRV ρ σ' (σ.reg t) (σ'.reg t)
 slot:∀ i B',σ'.slot i=.live B'→∃ B,σ.slot (ρ i)=.live B∧B'.kd=B.kd∧B'.k=B.k∧All2 (All2 (Rn ρ σ')) B.l B'.l
 dead:∀ i,σ'.slot i≠.fresh→σ.slot (ρ i)≠.fresh
 inj:∀ i j B B',σ'.slot i=.live B→σ'.slot j=.live B'→ρ i=ρ j→i=j
 win:∀ i B,σ.slot i=.live B→B.kd=2→ρ i=i∧∃ B',σ'.slot i=.live B'
def Ctx.rn (X:Ctx) (ρ:Nat→Nat) (σ':St):Ctx:=⟨σ'.slot,fun i=>X.A (ρ i),fun i=>X.C (ρ i),X.τ,X.N⟩
theorem RC.rn {p q:PV} {v:Value} {fp:List Nat} (h:RC w M X p v fp) (hr:Rn ρ σ' p q) (hS:∀ i B',σ'.slot i=.live B'→∃ B,X.H (ρ i)=.live B∧B'.kd=B.kd∧B'.k=B.k∧B.l.length=B'.l.length) (hM:∀ g,g<w.heap.size→¬ M g→¬ M' g):RC w M' (X.rn ρ σ') q v fp:=by
 cases hr with
 | nr hn=>exact h.move hn (fun _ _=>rfl) (fun _ _ _=>rfl) hM rfl
 | @ref i lo len full hf =>
  cases h with
  | ref h0 h hs =>
   refine .ref hf (fun B' hB' => ?_) hs;obtain ⟨B,hB,e1,e2,e3⟩:=hS i B' hB';obtain ⟨k1,k2⟩:=h B hB;refine ⟨by omega,fun e => ?_⟩;obtain ⟨m1,m2,m3⟩:=k2 (by omega);exact ⟨by omega,m2,by unfold RefOk at m3 ⊢;rw [e2];exact m3⟩
 | @ptr i full e j hf =>
  cases h with
  | ptr h0 h hs =>
   refine .ptr hf (fun B' hB' => ?_) hs;obtain ⟨B,hB,e1,e2,e3⟩:=hS i B' hB';obtain ⟨k1,k2⟩:=h B hB;refine ⟨by omega,fun e' => ?_⟩;obtain ⟨m1,x,m2,m3⟩:=k2 (by omega);exact ⟨m1,x,m2,by rw [e2];exact m3⟩
 | un hp=>rw [h.fp_nil hp];exact .un h.oneCell
theorem RCs.rn {ps qs:List PV} {xs:List Value} {fp:List Nat} (h:RCs w M X ps xs fp) (hr:All2 (Rn ρ σ') ps qs) (hS:∀ i B',σ'.slot i=.live B'→∃ B,X.H (ρ i)=.live B∧B'.kd=B.kd∧B'.k=B.k∧B.l.length=B'.l.length) (hM:∀ g,g<w.heap.size→¬ M g→¬ M' g):RCs w M' (X.rn ρ σ') qs xs fp:=by
 obtain ⟨hl,fps,hf,rfl,hc⟩:=h;obtain ⟨h1,h2⟩:=hr.get;refine ⟨by omega,fps,hf,rfl,fun j q u f hq hu hff => ?_⟩;have hj:j<ps.length:=by have:=(List.getElem?_eq_some_iff.1 hq).1;omega
 exact (hc j _ u f (List.getElem?_eq_getElem hj) hu hff).rn (h2 j _ q (List.getElem?_eq_getElem hj) hq) hS hM
theorem Wk.ren (ρ:Nat→Nat) (h0:RnS ρ σ σ'):Wk G σ σ':=by
 rintro acts w ⟨X,F,h⟩;have hS:∀ i B',σ'.slot i=.live B'→∃ B,X.H (ρ i)=.live B∧B'.kd=B.kd∧B'.k=B.k∧B.l.length=B'.l.length:=by
  intro i B' hi;obtain ⟨B,e1,e2,e3,e4⟩:=h0.slot i B' hi;exact ⟨B,by rw [h.hH];exact e1,e2,e3,e4.get.1⟩
 let X':=X.rn ρ σ'
 let F':Nat→List Nat:=fun i=>F (ρ i)
 have hOwn:∀ i,Own X' F' i=Own X F (ρ i):=fun i=>rfl
 have hM1:∀ g,Mut1 X' F' g→Mut1 X F g:=by
  rintro g ⟨i,B',hi,hg⟩;obtain ⟨B,hB,_⟩:=hS i B' hi;exact ⟨ρ i,B,hB,hg⟩
 have hM:∀ g,g<w.heap.size→¬ Mut X F g→¬ Mut X' F' g:=fun g _ hn hm=>hn (hm.imp id (hM1 g))
 have hR1:∀ {x y:R1} {v:Value},R1R w (Mut X F) X x v []→RnR1 ρ σ' x y→R1R w (Mut X' F') X' y v []:=by
  intro x y v hx hr;cases x with
  | one p =>
   cases y with
   | one q=>exact RC.rn hx hr hS hM
   | agg m=>exact hr.elim
  | agg l =>
   cases y with
   | one q=>exact hr.elim
   | agg m =>
    obtain ⟨xs,e,hc⟩:=hx;exact ⟨xs,e,hc.rn hr hS hM⟩
 refine ⟨X',F',?_⟩;exact {
  hH:=fun i=>rfl
  hτ:=h.hτ
  hN:=h.hN
  gok:=h.gok
  envs:=by
   show All2 _ (σ'.env::σ'.sus) _;rw [h0.s'];have he:=h.envs;rw [h0.s] at he;cases he with
   | cons e t =>
    cases t;refine .cons ⟨e.defers,e.size.trans h0.n.symm,fun t => ?_⟩ .nil;have h1:=e.reg t;have h2:=h0.reg t;have h1:RVR w (Mut X F) X (σ.reg t) _:=h1;show RVR w (Mut X' F') X' (σ'.reg t) _;generalize σ.reg t=u at h1 h2;generalize σ'.reg t=u' at h2;cases u' with
    | un=>trivial
    | r y =>
     cases u with
     | r x=>exact hR1 h1 h2
     | tup l=>exact h2.elim
     | un=>exact h2.elim
    | tup m =>
     cases u with
     | r x=>exact h2.elim
     | un=>exact h2.elim
     | tup l =>
      obtain ⟨vs,e1,e2,e3⟩:=h1;have h2:All2 (RnR1 ρ σ') l m:=h2;obtain ⟨q1,q2⟩:=h2.get;refine ⟨vs,e1,by omega,fun j x u hx hu => ?_⟩;have hj:j<l.length:=by have:=(List.getElem?_eq_some_iff.1 hx).1;omega
      exact hR1 (e3 j _ u (List.getElem?_eq_getElem hj) hu) (q2 j _ x (List.getElem?_eq_getElem hj) hx)
  blk:=fun i B' hi=>by
   obtain ⟨B,e1,e2,e3,e4⟩:=h0.slot i B' hi;obtain ⟨k1,xs,k2,k3⟩:=h.blk (ρ i) B (by rw [h.hH];exact e1);have hll:=e4.get.1;refine ⟨fun c hc => ?_,xs,k2.rn e4.flat hS hM,?_⟩
   ·obtain ⟨j,hj⟩:=List.getElem?_of_mem hc;have hj':j<B.l.length:=by have:=(List.getElem?_eq_some_iff.1 hj).1;omega
    have:=(e4.get.2 j _ c (List.getElem?_eq_getElem hj') hj).get.1;rw [e3,←this];exact k1 _ (List.getElem_mem hj')
   ·rcases k3 with ⟨z1,e,z2⟩|⟨z1,x,z2,z3,z4⟩
    ·exact .inl ⟨by omega,e,by rw [e3,←hll];exact z2⟩
    ·exact .inr ⟨by omega,x,z2,by omega,z4⟩
  nd:=fun i B' hi=>by
   obtain ⟨B,hB,_⟩:=hS i B' hi;exact h.nd (ρ i) B hB
  dj:=fun i j B1 B2 hi hj hij=>by
   obtain ⟨B,hB,_⟩:=hS i B1 hi;obtain ⟨B',hB',_⟩:=hS j B2 hj;exact h.dj (ρ i) (ρ j) B B' hB hB' fun e=>hij (h0.inj i j B1 B2 hi hj e)
  lt:=fun g hg=>h.lt g (hM1 g hg)
  src:=fun g hg=>h.src g (hM1 g hg)
  kept:=h.kept
  win:=fun i x hx=>by
   obtain ⟨B,hB,k1,k2,k3⟩:=h.win i x hx;have hB':σ.slot i=.live B:=by rw [← h.hH];exact hB
   obtain ⟨q1,B',q2⟩:=h0.win i B hB' k1;obtain ⟨B0,e1,e2,e3,_⟩:=h0.slot i B' q2;rw [q1,hB'] at e1;injection e1 with e1;subst e1;exact ⟨B',q2,e2.trans k1,by show X.A (ρ i)=_;rw [q1];exact k2,e3.trans k3⟩ }
end
def pureC:TC→Bool
 | .c _=>true
 | .rp _ _=>true
 | .fn _ _=>true
 | .fv .. => true
 | .rq _=>true
 | _=>false
def pureCs:List TC→Bool
 | []=>true
 | c::r=>pureC c&&pureCs r
def pureRs:List TR→Bool
 | []=>true
 | x::r=>pureCs x.cs&&pureRs r
def pureV:TV→Bool
 | .r x=>pureCs x.cs
 | .tup l=>pureRs l
 | .un=>true
def NormR (f g:Nat→TV):Prop:=∀ r,g r=f r∨g r=.un∨pureV (f r)=false
theorem NormR.refl (f:Nat→TV):NormR f f:=fun _=>.inl rfl
theorem NormR.trans {f g h:Nat→TV} (a:NormR f g) (b:NormR g h):NormR f h:=fun r=>by
 rcases a r with e|e|e
 ·rcases b r with k|k|k
  ·exact .inl (k.trans e)
  ·exact .inr (.inl k)
  ·exact .inr (.inr (by rw [← e];exact k))
 ·rcases b r with k|k|k
  ·exact .inr (.inl (k.trans e))
  ·exact .inr (.inl k)
  ·rw [e] at k;cases k
 ·exact .inr (.inr e)
def selR (r:List (Nat×TV)):List Nat→List (Nat×TV)
 | []=>[]
 | t::l=>match lookT r t with
  | .un=>selR r l
  | v=>(t,v)::selR r l
def refAt (c:Nat):Nat→List TC→Option Nat
 | _,[]=>none
 | j,.ref i _ _::r=>match Nat.beq i c with
  | true=>some j
  | false=>refAt c (j+1) r
 | j,_::r=>refAt c (j+1) r
def rowOf:TB→List TC
 | .var _ cs=>cs
 | .hole _ _ _ _ _ row _ _=>row
 | _=>[]
def findPar (c:Nat):Nat→List TB→Option (Nat×Nat)
 | _,[]=>none
 | i,b::r=>match refAt c 0 (rowOf b) with
  | some j=>some (i,j)
  | none=>findPar c (i+1) r
def idC (c:Nat):TC→Bool
 | .ref i _ _=>Nat.beq i c
 | .part i _ _ _ _=>Nat.beq i c
 | .vp i _=>Nat.beq i c
 | .hp i _ _ _ _=>Nat.beq i c
 | _=>false
def idCs (c:Nat):List TC→Bool
 | []=>false
 | x::r=>idC c x||idCs c r
def inRegs (c:Nat):List (Nat×TV)→Bool
 | []=>false
 | (_,v)::r=>idCs c v.cs||inRegs c r
def ownCell:TB→Option (SC×Nat)
 | .sl t v l=>some (.sl true t l,v)
 | .nb v k=>some (.nl true k,v)
 | _=>none
def colH (τ:TSt) (c:Nat):TSt :=
 match tbAt τ.h c with
 | .hole t v hv y pre row post memo=>match hpIn c τ.r with
  | true=>τ
  | false=>match whole t (.hole t v hv y pre row post memo) with
   | some (v',l)=>{ τ with h:=setT τ.h c (.sl t v' l) }
   | none=>τ
 | _=>τ
def cntR (c:Nat):List TC→Nat
 | []=>0
 | .ref i _ _::r=>(match Nat.beq i c with
  | true=>cntR c r+1
  | false=>cntR c r)
 | _::r=>cntR c r
def cntB (c:Nat):List TB→Nat
 | []=>0
 | b::r=>cntR c (rowOf b)+cntB c r
def foldC (τ:TSt) (c:Nat):TSt :=
 match inRegs c τ.r||Nat.ble 2 (cntB c τ.h) with
 | true=>τ
 | false=>match ownCell (tbAt τ.h c),findPar c 0 τ.h with
  | some (x,v),some (i,j)=>match (rowOf (tbAt τ.h i))[j]? with
   | some (.ref c' v' n)=>match Nat.beq c' c,Nat.beq v' v,Nat.beq i c with
    | true,true,false=>{ τ with h:=setT (setT τ.h c .dead) i (setRow j [.c x] (tbAt τ.h i)) }
    | _,_,_=>τ
   | _=>τ
  | _,_=>τ
def foldAll:Nat→TSt→TSt
 | 0,τ=>τ
 | c+1,τ=>foldAll c (foldC (colH τ c) c)
def frzR (n:Nat) (τ:TSt) (t:Nat):TSt :=
 match lookT τ.r t with
 | .r (.one (.vp id 0))=>match tbAt τ.h id,Nat.ble (t+1) n with
  | .var false cs,true=>match toSC cs with
   | some xs=>⟨(t,.r (.one (.rp xs 0)))::τ.r,setT τ.h id .dead,τ.g⟩
   | none=>τ
  | _,_=>τ
 | _=>τ
def slB:TB→Bool
 | .nb _ _=>true
 | .sl _ _ _=>true
 | .hole .. => true
 | _=>false
def allSl (h:List TB):List Nat→Bool
 | []=>true
 | i::r=>slB (tbAt h i)&&allSl h r
def csL:List SC→List TC
 | []=>[]
 | x::r=>.c x::csL r
def frzV (n:Nat) (τ:TSt) (t:Nat):TSt :=
 match pureV (lookT τ.r t),Nat.ble (t+1) n with
 | false,true=>match lookT τ.r t with
  | .r (.one c)=>match viewL τ [c] with
   | some ([x],ln)=>match allSl τ.h ln with
    | true=>⟨(t,.r (.one (.c x)))::τ.r,setTs τ.h (tdeads ln),τ.g⟩
    | false=>τ
   | _=>τ
  | .r (.agg cs)=>match viewL τ cs with
   | some (xs,ln)=>match allSl τ.h ln with
    | true=>⟨(t,.r (.agg (csL xs)))::τ.r,setTs τ.h (tdeads ln),τ.g⟩
    | false=>τ
   | _=>τ
  | _=>τ
 | _,_=>τ
def rowExp (τ:TSt) (id:Nat):TSt :=
 match tbAt τ.h id with
 | .var w cs=>⟨τ.r,setTs τ.h ((id,.var w (tthaw τ.g τ.h.length cs).1)::(tthaw τ.g τ.h.length cs).2),τ.g+1⟩
 | .hole t v hv y pre row post _=>⟨τ.r,setTs τ.h ((id,.hole t v hv y pre (tthaw τ.g τ.h.length row).1 post none)::(tthaw τ.g τ.h.length row).2),τ.g+1⟩
 | _=>τ
def expR (τ:TSt) (t:Nat):TSt :=
 match lookT τ.r t with
 | .r (.one (.vp id 0))=>match tbAt τ.h id with
  | .var w cs=>⟨τ.r,setTs τ.h ((id,.var w (tthaw τ.g τ.h.length cs).1)::(tthaw τ.g τ.h.length cs).2),τ.g+1⟩
  | _=>τ
 | .r (.one (.hp id _ _ _ _))=>rowExp τ id
 | _=>τ
def ghO (τ:TSt) (b v:Nat) (x:Int) {R:Type} (K:TSt→Option R):Option R :=
 match tbAt τ.h b with
 | .sl t v' l=>match Nat.beq v v' with
  | true=>bd (ix l x) fun e=>K ⟨τ.r,setT τ.h b (.hole t v τ.g x (l.take x.toNat) ((cells t e).map .c) (l.drop (x.toNat+1)) (some l)),τ.g+1⟩
  | false=>none
 | .hole _ _ _ y _ _ _ _=>gd (x=y) (K τ)
 | _=>none
def ghI (τ:TSt) (rg:Nat):Option Int:=match Nat.ble 100000 rg with
 | true=>some ((rg-100000:Nat):Int)
 | false=>match lookT τ.r rg with
  | .r (.one (.c (.i _ x)))=>some x
  | _=>none
def ghT {R:Type}:List (Nat×Nat)→Nat→TSt→(TSt→Option R)→Option R
 | [],id,τ,K=>K (rowExp τ id)
 | (off,rg)::p,id,τ,K=>match (rowOf (tbAt (rowExp τ id).h id))[off]?,ghI τ rg with
  | some (.ref b v _),some x=>ghO (rowExp τ id) b v x fun τ'=>ghT p b τ' K
  | _,_=>none
def ghS {R:Type}:List (Nat×List (Nat×Nat))→TSt→(TSt→Option R)→Option R
 | [],τ,K=>K τ
 | (t,p)::l,τ,K=>match lookT τ.r t with
  | .r (.one (.vp id 0))=>ghT p id τ fun τ'=>ghS l τ' K
  | .r (.one (.hp id _ _ _ 0))=>ghT p id τ fun τ'=>ghS l τ' K
  | _=>none
def frzAll (n:Nat):List Nat→TSt→TSt
 | [],τ=>τ
 | t::l,τ=>match Nat.ble 100000 t with
  | true=>frzAll n l (expR τ (t-100000))
  | false=>frzAll n l (frzV n (frzR n τ t) t)
def idsCs:List TC→List Nat
 | []=>[]
 | .ref i _ _::r=>i::idsCs r
 | .part i _ _ _ _::r=>i::idsCs r
 | .vp i _::r=>i::idsCs r
 | .hp i _ _ _ _::r=>i::idsCs r
 | _::r=>idsCs r
def idsR:List (Nat×TV)→List Nat
 | []=>[]
 | (_,v)::r=>idsCs v.cs++idsR r
def winIds:Nat→List TB→List Nat
 | _,[]=>[]
 | i,.var true _::r=>i::winIds (i+1) r
 | i,_::r=>winIds (i+1) r
def reachB (h:List TB):Nat→List Nat→List Nat→List Nat
 | 0,_,acc=>acc
 | _+1,[],acc=>acc
 | f+1,i::todo,acc=>match memB i acc || !liveB (tbAt h i) with
  | true=>reachB h f todo acc
  | false=>reachB h f (todo++idsCs (rowOf (tbAt h i))) (acc++[i])
def idxOf:List Nat→Nat→Option Nat
 | [],_=>none
 | j::r,i=>match Nat.beq j i with
  | true=>some 0
  | false=>match idxOf r i with
   | some k=>some (k+1)
   | none=>none
def numC (ρ:List Nat) (h:List TB):TC→TC
 | .ref id v n=>match idxOf ρ id,vlen (tbAt h id) with
  | some i,some (v',_)=>match Nat.beq v v' with
   | true=>.ref i 0 n
   | false=>.un
  | _,_=>.un
 | .part id v lo len n=>match idxOf ρ id,vlen (tbAt h id) with
  | some i,some (v',_)=>match Nat.beq v v' with
   | true=>.part i 0 lo len n
   | false=>.un
  | _,_=>.un
 | .hp id v n e j=>match idxOf ρ id,hinf (tbAt h id) with
  | some i,some (v',_)=>match Nat.beq v v' with
   | true=>.hp i 0 n e j
   | false=>.un
  | _,_=>.un
 | .vp id j=>match idxOf ρ id with
  | some i=>.vp i j
  | none=>.un
 | .fq _ _=>.un
 | c=>c
def numR (ρ:List Nat) (h:List TB):TR→TR
 | .one c=>.one (numC ρ h c)
 | .agg l=>.agg (l.map (numC ρ h))
def numV (ρ:List Nat) (h:List TB):TV→TV
 | .r x=>.r (numR ρ h x)
 | .tup l=>.tup (l.map (numR ρ h))
 | .un=>.un
def numB (ρ:List Nat) (h:List TB):TB→TB
 | .var w cs=>.var w (cs.map (numC ρ h))
 | .nb _ k=>.nb 0 k
 | .sl t _ l=>.sl t 0 l
 | .hole t _ _ n pre row post memo=>.hole t 0 0 n pre (row.map (numC ρ h)) post (match toSC row with
  | some _=>memo
  | none=>none)
 | b=>b
def winOk (ρ:List Nat):Nat→List TB→Bool
 | _,[]=>true
 | i,.var true _::r=>(match ρ[i]? with
  | some k=>Nat.beq k i
  | none=>false)&&winOk ρ (i+1) r
 | i,_::r=>winOk ρ (i+1) r
def canon (τ:TSt):TSt :=
 let ρ:=reachB τ.h 4000 (winIds 0 τ.h++idsR τ.r) []
 match nodupB ρ&&winOk ρ 0 τ.h&&allLive τ.h ρ with
 | true=>⟨τ.r.map fun e=>(e.1,numV ρ τ.h e.2),ρ.map fun i=>numB ρ τ.h (tbAt τ.h i),1⟩
 | false=>τ
def norm (n:Nat) (frz lv:List Nat) (τ:TSt):TSt :=
 canon (let τ1:TSt:=canon ⟨selR τ.r lv,τ.h,τ.g⟩
  let τ2:=frzAll n frz (foldAll τ1.h.length (foldAll τ1.h.length τ1))
  ⟨selR τ2.r lv,τ2.h,τ2.g⟩)
section
variable {P:Program} {G:Fr} {τ:TSt} {n:Nat}
structure Tidy (P:Program) (n:Nat) (τ τ':TSt):Prop where
 wk:∀ G,Wk G (img n τ) (img n τ')
 inv:Inv P τ'
 nr:NormR (lookT τ.r) (lookT τ'.r)
structure TidyS (P:Program) (n:Nat) (τ τ':TSt):Prop where
 wk:∀ G S,Wk G ((img n τ).wS S) ((img n τ').wS S)
 inv:Inv P τ'
 nr:NormR (lookT τ.r) (lookT τ'.r)
 le:HLe τ.h τ.g τ'.h τ'.g
theorem TidyS.refl (hI:Inv P τ):TidyS P n τ τ:=⟨fun G S=>Wk.refl _,hI,NormR.refl _,HLe.refl⟩
theorem TidyS.trans {τ' τ'':TSt} (a:TidyS P n τ τ') (b:TidyS P n τ' τ''):TidyS P n τ τ'':=⟨fun G S=>(a.wk G S).trans (b.wk G S),b.inv,a.nr.trans b.nr,a.le.trans b.le⟩
theorem TidyS.tidy {τ':TSt} (a:TidyS P n τ τ'):Tidy P n τ τ':=⟨fun G=>a.wk G [],a.inv,a.nr⟩
theorem Tidy.refl (hI:Inv P τ):Tidy P n τ τ:=⟨fun G=>Wk.refl _,hI,NormR.refl _⟩
theorem Tidy.trans {τ' τ'':TSt} (a:Tidy P n τ τ') (b:Tidy P n τ' τ''):Tidy P n τ τ'':=⟨fun G=>(a.wk G).trans (b.wk G),b.inv,a.nr.trans b.nr⟩
theorem selR_look (r:List (Nat×TV)):∀ (lv:List Nat) (t:Nat),lookT (selR r lv) t=lookT r t∨lookT (selR r lv) t=.un
 | [],t=>.inr rfl
 | s::l,t=>by
  simp only [selR];split
  ·exact selR_look r l t
  ·rename_i v hv;simp only [lookT];split
   ·rename_i e;have:=nbe e;subst this;exact .inl rfl
   ·exact selR_look r l t
theorem selR_mem {r:List (Nat×TV)}:∀ {lv:List Nat} {e:Nat×TV},e∈selR r lv→lookT r e.1=e.2∧e.2≠.un
 | s::l,e,h=>by
  simp only [selR] at h;split at h
  ·exact selR_mem h
  ·rename_i v hv;rcases List.mem_cons.1 h with rfl|h
   ·exact ⟨rfl,fun e=>hv e⟩
   ·exact selR_mem h
theorem selR_tidyS (hI:Inv P τ) (lv:List Nat):TidyS P n τ ⟨selR τ.r lv,τ.h,τ.g⟩:=by
 refine ⟨fun G S => ?_,⟨fun e he c hc => ?_,hI.blks⟩,fun t => ?_,HLe.refl⟩
 ·refine Wk.regs (σ:=(img n τ).wS S) ((selR τ.r lv).map fun e=>(e.1,e.2.rv)) fun e he => ?_
  obtain ⟨z,hz,rfl⟩:=List.mem_map.1 he;have:=img_reg (n:=n) (τ:=τ) z.1;rw [(selR_mem hz).1] at this;exact this
 ·obtain ⟨h1,h2⟩:=selR_mem he;rcases lookT_mem τ.r e.1 with k|⟨z,hz,k1,k2⟩
  ·rw [h1] at k;exact (h2 k).elim
  ·rw [h1] at k2;rw [k2] at hc;exact hI.regs z hz c hc
 ·rcases selR_look τ.r lv t with k|k
  ·exact .inl k
  ·exact .inr (.inl k)
theorem selR_tidy (hI:Inv P τ) (lv:List Nat):Tidy P n τ ⟨selR τ.r lv,τ.h,τ.g⟩:=(selR_tidyS hI lv).tidy
theorem colH_tidyS (hI:Inv P τ) (c:Nat):TidyS P n τ (colH τ c):=by
 unfold colH;split
 ·rename_i t v hv y pre row post memo hB;split
  ·exact TidyS.refl hI
  ·split
   ·rename_i v' l hw;have hbk:=hI.blks c;rw [hB] at hbk;obtain ⟨w1,w2⟩:=whole_ok hbk hw;have hlt:=lt_of_tb hB (by simp);have hv':v'=v:=by simp only [vlen,osi,Prod.mk.injEq] at w2;exact w2.1.symm
    have le:HLe τ.h τ.g (setT τ.h c (.sl t v' l)) τ.g:=by
     refine ⟨Nat.le_refl _,fun i u m hu e => ?_,fun i u m q hu e => ?_⟩
     ·rw [tbAt_setT] at e;by_cases hi:i=c
      ·subst hi;rw [if_pos rfl] at e;rw [hB,w2];exact e
      ·rwa [if_neg hi] at e
     ·rw [tbAt_setT] at e;by_cases hi:i=c
      ·subst hi;rw [if_pos rfl] at e;simp [hinf] at e
      ·rwa [if_neg hi] at e
    refine ⟨fun G S => ?_,⟨fun e he c' hc=>le.cok (hI.regs e he c' hc),fun i => ?_⟩,NormR.refl _,le⟩
    ·have:img n { τ with h:=setT τ.h c (.sl t v' l) }=img n τ:=by
      simp only [img];rw [setT_same _ _ _ hlt (by rw [hB,w1];rfl)]
     rw [this];exact Wk.refl _
    ·show bok P _ _ (tbAt (setT τ.h c _) i);rw [tbAt_setT];by_cases hi:i=c
     ·rw [if_pos hi,hv'];exact hbk.1
     ·rw [if_neg hi];exact le.bok (hI.blks i)
   ·exact TidyS.refl hI
 ·exact TidyS.refl hI
theorem colH_tidy (hI:Inv P τ) (c:Nat):Tidy P n τ (colH τ c):=(colH_tidyS hI c).tidy
theorem rowOf_row {i:Nat} {tb:TB} {j:Nat} {c:TC} (hb:bok P τ.h τ.g tb) (hB:tbAt τ.h i=tb) (hj:(rowOf tb)[j]? = some c) {x:SC}:∃ (B:Blk) (e:Nat) (cl:List PV),(img n τ).slot i=.live B∧B.l[e]? = some cl∧cl[j]? = some c.pv∧(setRow j [.c x] tb).slot=.live { B with l:=B.l.set e (cl.set j x.pv) }:=by
 cases tb with
 | var w cs =>
  have hj':cs[j]? = some c:=hj;have hjl:=(List.getElem?_eq_some_iff.1 hj').1;refine ⟨_,0,cs.map TC.pv,by rw [img_slot,hB];rfl,rfl,by simp [hj'],?_⟩;simp only [setRow,TB.slot,←set_splice hjl];simp [TC.pv]
 | hole t v hv y pre row post memo =>
  have hj':row[j]? = some c:=hj;have hjl:=(List.getElem?_eq_some_iff.1 hj').1;refine ⟨_,pre.length,row.map TC.pv,by rw [img_slot,hB];rfl,hole_get,by simp [hj'],?_⟩;simp only [setRow,TB.slot,←set_splice hjl,hole_set];simp [TC.pv]
 | _=>simp [rowOf] at hj
theorem ownCell_ok {c:Nat} {x:SC} {v:Nat} (h:ownCell (tbAt τ.h c)=some (x,v)):∃ k l,x.pv=.vs true k l∧(img n τ).slot c=.live ⟨0,k,[],l⟩∧vlen (tbAt τ.h c)=some (v,l.length)∧∀ r∈l,∀ p∈r,NoRef p:=by
 rw [img_slot];unfold ownCell at h;split at h
 ·rename_i t v' l hB;simp only [osi,Prod.mk.injEq] at h;obtain ⟨rfl,rfl⟩:=h;rw [hB];refine ⟨t.sz,l.map (enc t),rfl,rfl,by simp [vlen],fun r hr => ?_⟩;obtain ⟨z,_,rfl⟩:=List.mem_map.1 hr;exact enc_nr t z
 ·rename_i v' k hB;simp only [osi,Prod.mk.injEq] at h;obtain ⟨rfl,rfl⟩:=h;rw [hB];exact ⟨k,[],rfl,rfl,rfl,by simp⟩
 ·cases h
theorem foldC_tidyS (hI:Inv P τ) (c:Nat):TidyS P n τ (foldC τ c):=by
 unfold foldC;split
 ·exact TidyS.refl hI
 ·split
  ·rename_i x v i j hx hp;split
   ·rename_i c' v' m hj;split
    ·rename_i h1 h2 h3;have h1:=nbe h1;have h2:=nbe h2;subst h1 h2;have hne:c'≠i:=fun e=>by subst e;rw [Nat.beq_refl] at h3;cases h3
     obtain ⟨k,l,x1,x2,x3,x4⟩:=ownCell_ok (n:=n) hx;obtain ⟨B,e,cl,b1,b2,b3,b4⟩:=rowOf_row (n:=n) (hI.blks i) rfl hj (x:=x);have hm:m=l.length:=by
      have hc:cok P τ.h τ.g (.ref c' v' m):=by
       have hb:=hI.blks i
       revert hb hj
       cases tbAt τ.h i with
       | var w cs=>intro hj hb;exact hb _ (List.mem_of_getElem? hj)
       | hole t v hv y pre row post memo=>intro hj hb;exact hb.2.2.1 _ (List.mem_of_getElem? hj)
       | _=>intro hj;simp [rowOf] at hj
      exact hc.2 _ x3
     subst hm;have hil:i<τ.h.length:=tbAt_lt fun e=>by rw [e] at hj;simp [rowOf] at hj
     have hcl:c'<τ.h.length:=tbAt_lt fun e=>by rw [e] at x3;cases x3
     have le:HLe τ.h τ.g (setT (setT τ.h c' .dead) i (setRow j [.c x] (tbAt τ.h i))) τ.g:=by
      refine ⟨Nat.le_refl _,fun z u m hu e => ?_,fun z u m q hu e => ?_⟩
      ·rw [tbAt_setT] at e;by_cases hi:z=i
       ·subst hi;rw [if_pos rfl,setRow_vlen] at e;exact e
       ·rw [if_neg hi,tbAt_setT] at e;by_cases hc:z=c'
        ·rw [if_pos hc] at e;cases e
        ·rwa [if_neg hc] at e
      ·rw [tbAt_setT] at e;by_cases hi:z=i
       ·subst hi;rw [if_pos rfl,setRow_hinf] at e;exact e
       ·rw [if_neg hi,tbAt_setT] at e;by_cases hc:z=c'
        ·rw [if_pos hc] at e;cases e
        ·rwa [if_neg hc] at e
     refine ⟨fun G S => ?_,⟨fun e he c hc=>le.cok (hI.regs e he c hc),fun z => ?_⟩,NormR.refl _,le⟩
     ·have:=Wk.fold (G:=G) (σ:=(img n τ).wS S) b1 b2 (show cl[j]? = some (.ref c' 0 l.length l.length) from b3) x2 rfl rfl hne rfl rfl x4;rw [← x1] at this;have e2:(((img n τ).wS S).setSlot c' .dead).setSlot i (.live { B with l:=B.l.set e (cl.set j x.pv) })=(img n { τ with h:=setT (setT τ.h c' .dead) i (setRow j [.c x] (tbAt τ.h i)) }).wS S:=by
       rw [← b4];show St.mk _ _ (setAt (setAt (τ.h.map TB.slot) c' (TB.dead).slot) i _)=_;rw [setAt_map,setAt_map];rfl
      rw [e2] at this;exact this
     ·show bok P _ _ (tbAt (setT (setT τ.h c' .dead) i _) z);rw [tbAt_setT];by_cases hi:z=i
      ·rw [if_pos hi];have hb:=le.bok (hI.blks i)
       revert hb hj
       cases tbAt τ.h i with
       | var w cs =>
        intro hj hb c hc;rcases mem_splice hc with hc|hc
        ·exact hb c hc
        ·have:c=.c x:=by simpa using hc
         subst this;trivial
       | hole t v hv y pre row post memo =>
        intro hj hb;obtain ⟨q1,q2,q3,q4,q5,q6⟩:=hb;have hjl:=(List.getElem?_eq_some_iff.1 (show row[j]? = _ from hj)).1;refine ⟨q1,q2,fun c hc => ?_,by rw [splice_len (by simp;omega)];exact q4,q5,by simp⟩;rcases mem_splice hc with hc|hc
        ·exact q3 c hc
        ·have:c=.c x:=by simpa using hc
         subst this;trivial
       | _=>intro hj;simp [rowOf] at hj
      ·rw [if_neg hi,tbAt_setT];by_cases hc:z=c'
       ·rw [if_pos hc];trivial
       ·rw [if_neg hc];exact le.bok (hI.blks z)
    ·exact TidyS.refl hI
   ·exact TidyS.refl hI
  ·exact TidyS.refl hI
theorem foldC_tidy (hI:Inv P τ) (c:Nat):Tidy P n τ (foldC τ c):=(foldC_tidyS hI c).tidy
theorem foldAll_tidy:∀ (k:Nat) {τ:TSt},Inv P τ→Tidy P n τ (foldAll k τ)
 | 0,τ,hI=>Tidy.refl hI
 | k+1,τ,hI=>by
  have h1:=colH_tidy (n:=n) hI k;have h2:=foldC_tidy (n:=n) h1.inv k;exact (h1.trans h2).trans (foldAll_tidy k h2.inv)
theorem vcL_sc {σ:St}:∀ (l:List SC),vcL σ (l.map SC.pv)=some (l.map SC.pv,[])
 | []=>rfl
 | x::l=>by
  have:vc σ x.pv=some (x.pv,[]):=by cases x<;>rfl
  simp [vcL,this,vcL_sc l]
theorem frzR_tidy (hI:Inv P τ) (t:Nat):Tidy P n τ (frzR n τ t):=by
 unfold frzR;split
 ·rename_i id ht;split
  ·rename_i cs hB hn;split
   ·rename_i xs hxs;have hn:=Nat.le_of_ble_eq_true hn;have hs:(img n τ).slot id=.live ⟨1,cs.length,[],[xs.map SC.pv]⟩:=by rw [img_slot,hB,←toSC_ok hxs];rfl
    have hreg:(img n τ).reg t=.r (.one (.ptr id 1 0 0)):=by rw [img_reg,ht];rfl
    have le:HLe τ.h τ.g (setT τ.h id .dead) τ.g:=by
     refine ⟨Nat.le_refl _,fun z u m hu e => ?_,fun z u m q hu e => ?_⟩
     ·rw [tbAt_setT] at e;by_cases hi:z=id
      ·rw [if_pos hi] at e;cases e
      ·rwa [if_neg hi] at e
     ·rw [tbAt_setT] at e;by_cases hi:z=id
      ·rw [if_pos hi] at e;cases e
      ·rwa [if_neg hi] at e
    refine ⟨fun G => ?_,⟨fun e he c hc => ?_,fun z => ?_⟩,fun s => ?_⟩
    ·have:=Wk.freeze (G:=G) (l:=[id]) (x:=.one (.rp (xs.map SC.pv) 0)) hreg (by
       simp only [vwR,vwP,hs];refine .inl ⟨rfl,xs.map SC.pv,rfl,?_⟩;rw [vcL_sc];exact ⟨rfl,rfl⟩) (fun i hi=>by
       have:i=id:=by simpa using hi
       subst this;exact ⟨_,hs,by simp⟩) (fun p hp=>by
       have:p=.rp (xs.map SC.pv) 0:=by simpa [R1.cs] using hp
       subst this;exact .rp nr_map) (show t<n by omega)
     have e2:(kills (img n τ) [id]).put t (.r (.one (.rp (xs.map SC.pv) 0)))=img n ⟨(t,.r (.one (.rp xs 0)))::τ.r,setT τ.h id .dead,τ.g⟩:=by
      show St.mk _ _ (setAt (τ.h.map TB.slot) id (TB.dead).slot)=_;rw [setAt_map];rfl
     rw [e2] at this;exact this
    ·rcases List.mem_cons.1 he with rfl|he
     ·have:c=.rp xs 0:=by simpa [TV.cs,TR.cs] using hc
      subst this;trivial
     ·exact le.cok (hI.regs e he c hc)
    ·show bok P _ _ (tbAt (setT τ.h id .dead) z);rw [tbAt_setT];by_cases hi:z=id
     ·rw [if_pos hi];trivial
     ·rw [if_neg hi];exact le.bok (hI.blks z)
    ·simp only [lookT];split
     ·rename_i e;have:=nbe e;subst this;exact .inr (.inr (by rw [ht];rfl))
     ·exact .inl rfl
   ·exact Tidy.refl hI
  ·exact Tidy.refl hI
 ·exact Tidy.refl hI
theorem csL_pv:∀ (l:List SC),(csL l).map TC.pv=l.map SC.pv
 | []=>rfl
 | x::r=>by simp only [csL,List.map_cons,TC.pv,csL_pv r]
theorem csL_c:∀ {l:List SC} {c:TC},c∈csL l→∃ x,c=.c x
 | x::r,c,h=>by
  rcases List.mem_cons.1 h with rfl|h
  ·exact ⟨_,rfl⟩
  ·exact csL_c h
theorem allSl_ok {h:List TB}:∀ {l:List Nat},allSl h l=true→∀ i∈l,slB (tbAt h i)=true
 | [],_,i,hi=>by cases hi
 | x::r,k,i,hi=>by
  simp only [allSl,bae] at k;rcases List.mem_cons.1 hi with rfl|hi
  ·exact k.1
  ·exact allSl_ok k.2 i hi
theorem kills_img:∀ (l:List Nat) (τ:TSt),kills (img n τ) l=img n ⟨τ.r,setTs τ.h (tdeads l),τ.g⟩
 | [],τ=>rfl
 | i::l,τ=>by
  have e:(img n τ).setSlot i .dead=img n ⟨τ.r,setT τ.h i .dead,τ.g⟩:=by
   show St.mk _ _ (setAt (τ.h.map TB.slot) i (TB.dead).slot)=_;rw [setAt_map];rfl
  simp only [kills,e];exact kills_img l ⟨τ.r,setT τ.h i .dead,τ.g⟩
theorem deads_le (h:List TB) (g:Nat) (l:List Nat):HLe h g (setTs h (tdeads l)) g:=by
 refine ⟨Nat.le_refl _,fun z u m hu e => ?_,fun z u m q hu e => ?_⟩
 ·rcases setTs_or (tdeads l) h z with k|⟨x,k1,k2⟩
  ·rwa [k] at e
  ·rw [k2,show x=_ from tdeads_mem k1] at e;cases e
 ·rcases setTs_or (tdeads l) h z with k|⟨x,k1,k2⟩
  ·rwa [k] at e
  ·rw [k2,show x=_ from tdeads_mem k1] at e;cases e
theorem frz_put (hI:Inv P τ) {t:Nat} {r:TR} {y:TR} {ln:List Nat} (hr:lookT τ.r t=.r r) (hv:vwR (img n τ) r.r1 y.r1 fun l'=>l'=ln) (hs:allSl τ.h ln=true) (hn:∀ p∈y.r1.cs,NoRef p) (hy:∀ c∈y.cs,∃ x,c=.c x) (hp:pureV (lookT τ.r t)=false) (ht:t<n):Tidy P n τ ⟨(t,.r y)::τ.r,setTs τ.h (tdeads ln),τ.g⟩:=by
 have le:=deads_le τ.h τ.g ln;refine ⟨fun G => ?_,⟨fun e he c hc => ?_,fun z => ?_⟩,fun s => ?_⟩
 ·have hreg:(img n τ).reg t=.r r.r1:=by rw [img_reg,hr];rfl
  have:=Wk.freeze (G:=G) hreg hv (fun i hi=>by
   have:=allSl_ok hs i hi;rw [img_slot]
   revert this
   cases tbAt τ.h i<;>intro k<;>first|(cases k;done)|exact ⟨_,rfl,by simp⟩) hn (show t<n from ht)
  rw [kills_img] at this;exact this
 ·rcases List.mem_cons.1 he with rfl|he
  ·obtain ⟨x,rfl⟩:=hy c hc;trivial
  ·exact le.cok (hI.regs e he c hc)
 ·show bok P _ _ (tbAt (setTs τ.h (tdeads ln)) z);rcases setTs_or (tdeads ln) τ.h z with k|⟨x,k1,k2⟩
  ·rw [k];exact le.bok (hI.blks z)
  ·rw [k2,show x=_ from tdeads_mem k1];trivial
 ·simp only [lookT];split
  ·rename_i e;have:=nbe e;subst this;exact .inr (.inr hp)
  ·exact .inl rfl
theorem frzV_tidy (hI:Inv P τ) (t:Nat):Tidy P n τ (frzV n τ t):=by
 have hck:∀ c∈(lookT τ.r t).cs,cok P τ.h τ.g c:=by
  intro c hc;rcases lookT_mem τ.r t with k|⟨z,hz,k1,k2⟩
  ·rw [k] at hc;simp [TV.cs] at hc
  ·rw [k2] at hc;exact hI.regs z hz c hc
 unfold frzV;split
 ·rename_i hp hn;have hn:=Nat.le_of_ble_eq_true hn;split
  ·rename_i c hl;split
   ·rename_i x ln hx;split
    ·rename_i hs;have hv:=viewL_ok (n:=n) hI (K:=fun l'=>l'=ln) (fun c' hc=>hck c' (by rw [hl];exact hc)) hx rfl;refine frz_put hI (r:=.one c) hl ?_ hs (fun p hp => ?_) (fun c' hc => ?_) hp (by omega)
     ·have hv:vwP (img n τ) c.pv x.pv fun l=>(l++[])=ln:=hv
      simp only [List.append_nil] at hv;exact .inl hv
     ·have:p=x.pv:=by simpa [TR.r1,R1.cs,TC.pv] using hp
      subst this;exact x.nr
     ·have:c'=.c x:=by simpa [TR.cs] using hc
      subst this;exact ⟨_,rfl⟩
    ·exact Tidy.refl hI
   ·exact Tidy.refl hI
  ·rename_i cs hl;split
   ·rename_i xs ln hx;split
    ·rename_i hs;have hv:=viewL_ok (n:=n) hI (K:=fun l'=>l'=ln) (fun c' hc=>hck c' (by rw [hl];exact hc)) hx rfl;refine frz_put hI (r:=.agg cs) (y:=.agg (csL xs)) hl ?_ hs (fun p hp => ?_) (fun c' hc=>csL_c hc) hp (by omega)
     ·show vwL (img n τ) (cs.map TC.pv) ((csL xs).map TC.pv) _;rw [csL_pv];exact hv
     ·have hp:p∈(csL xs).map TC.pv:=hp;rw [csL_pv] at hp;exact nr_map p hp
    ·exact Tidy.refl hI
   ·exact Tidy.refl hI
  ·exact Tidy.refl hI
 ·exact Tidy.refl hI
theorem rowExp_tidy (hI:Inv P τ) (id:Nat):Tidy P n τ (rowExp τ id):=by
 have key:∀ (tb':TB) (cs:List TC) (B:Blk) (e:Nat),id<τ.h.length→(∀ c∈cs,cok P τ.h τ.g c)→(img n τ).slot id=.live B→B.l[e]? = some (cs.map TC.pv) →
   (∀ v m,v<τ.g→vlen tb'=some (v,m)→vlen (tbAt τ.h id)=some (v,m))→(∀ v m q,v<τ.g→hinf tb'=some (v,m,q)→hinf (tbAt τ.h id)=some (v,m,q)) →
   (∀ h',HLe τ.h τ.g h' (τ.g+1)→(∀ c∈(tthaw τ.g τ.h.length cs).1,cok P h' (τ.g+1) c)→bok P h' (τ.g+1) tb') →
   tb'.slot=.live { B with kids:=[],l:=B.l.set e ((tthaw τ.g τ.h.length cs).1.map TC.pv) } →
   Tidy P n τ ⟨τ.r,setTs τ.h ((id,tb')::(tthaw τ.g τ.h.length cs).2),τ.g+1⟩:=by
  intro tb' cs B e hidlt hbk hs he h1 h2 h3 h4;have hok:OkE P τ { v:=.un,wh:=(id,tb')::(tthaw τ.g τ.h.length cs).2,rd:=[],g:=τ.g+1 } :=
   thaw_okE hI (id:=id) (b':=τ.h.length) (tb':=tb') (cs:=cs) (v:=.un) hidlt (Nat.le_refl _) hbk h1 h2 h3 (fun h' le hcc _ c hc=>by simp [TV.cs] at hc)
  refine ⟨fun G => ?_,inv_app hI hok none,NormR.refl _⟩;rintro acts w0 ⟨X,F,h⟩;have hth:=tthaw_ok τ.g τ.h.length cs;obtain ⟨X1,F1,h1,_⟩:=h.exposeAll (cs.map TC.pv) (id:=id) (e:=e) (j:=0) (b:=τ.h.length) (B:=B) (c:=cs.map TC.pv) hs he (by rw [List.drop_zero];exact List.take_length) (fun y hy=>by
   rw [hth] at hy;obtain ⟨z,hz,rfl⟩:=List.mem_map.1 hy;have:=(tthaw_blk hz).1;exact img_fresh _ (by simp only [wsl];omega)) []
  refine ⟨X1,F1,?_⟩;have e1:splice (cs.map TC.pv) 0 (thaw τ.h.length (cs.map TC.pv)).1=(tthaw τ.g τ.h.length cs).1.map TC.pv:=by
   rw [hth];simp [splice,tthaw_len]
  have e2:=setTs_slots (n:=n) ((id,tb')::(tthaw τ.g τ.h.length cs).2) τ.h (τ.r.map fun e=>(e.1,e.2.rv));have e3:img n ⟨τ.r,setTs τ.h ((id,tb')::(tthaw τ.g τ.h.length cs).2),τ.g+1⟩=setSlots (img n τ) ((id,.live { B with kids:=[],l:=B.l.set e (splice (cs.map TC.pv) 0 (thaw τ.h.length (cs.map TC.pv)).1) })::(thaw τ.h.length (cs.map TC.pv)).2):=by
   rw [e1,hth];refine Eq.trans e2.symm ?_;simp only [List.map_cons,h4];rfl
  show SimW G X1 F1 (img n ⟨τ.r,setTs τ.h ((id,tb')::(tthaw τ.g τ.h.length cs).2),τ.g+1⟩) acts w0;rw [e3];exact h1
 unfold rowExp;split
 ·rename_i w cs hb;have hbk:∀ c∈cs,cok P τ.h τ.g c:=by have:=hI.blks id;rw [hb] at this;exact this
  exact key (.var w (tthaw τ.g τ.h.length cs).1) cs ⟨if w then 2 else 1,cs.length,[],[cs.map TC.pv]⟩ 0 (lt_of_tb hb (by simp)) hbk (by rw [img_slot,hb];rfl) rfl (fun _ _ _ e=>(var_vlen e).elim) (fun _ _ _ _ e=>(var_hinf e).elim) (fun h' le hcc c hc=>hcc c hc) (by simp [TB.slot,tthaw_len])
 ·rename_i t v hv y pre row post memo hb;have hbk:=hI.blks id;rw [hb] at hbk;obtain ⟨q1,q2,q3,q4,q5,q6⟩:=hbk;exact key (.hole t v hv y pre (tthaw τ.g τ.h.length row).1 post none) row ⟨0,t.sz,[],pre.map (enc t)++row.map TC.pv::post.map (enc t)⟩ pre.length (lt_of_tb hb (by simp)) q3 (by rw [img_slot,hb];rfl) hole_get (fun v m hv e=>by rw [hb];exact e) (fun v m q hv e=>by rw [hb];exact e) (fun h' le hcc=>⟨by omega,by omega,hcc,by rw [tthaw_len];exact q4,q5,by simp⟩) (by simp [TB.slot,hole_set])
 ·exact Tidy.refl hI
theorem expR_tidy (hI:Inv P τ) (t:Nat):Tidy P n τ (expR τ t):=by
 unfold expR;split
 ·rename_i id hr;split
  ·rename_i w cs hb;have hbk:∀ c∈cs,cok P τ.h τ.g c:=by have:=hI.blks id;rw [hb] at this;exact this
   have hidlt:id<τ.h.length:=lt_of_tb hb (by simp);have hs:(img n τ).slot id=.live ⟨if w then 2 else 1,cs.length,[],[cs.map TC.pv]⟩:=by rw [img_slot,hb];rfl
   have hok:OkE P τ { v:=.un,wh:=(id,.var w (tthaw τ.g τ.h.length cs).1)::(tthaw τ.g τ.h.length cs).2,rd:=[],g:=τ.g+1 } :=
    thaw_okE hI (id:=id) (b':=τ.h.length) (tb':=.var w (tthaw τ.g τ.h.length cs).1) (cs:=cs) (v:=.un) hidlt (Nat.le_refl _) hbk (fun _ _ _ e=>(var_vlen e).elim) (fun _ _ _ _ e=>(var_hinf e).elim) (fun h' le hcc c hc=>hcc c hc) (fun h' le hcc _ c hc=>by simp [TV.cs] at hc)
   refine ⟨fun G => ?_,inv_app hI hok none,NormR.refl _⟩;rintro acts w0 ⟨X,F,h⟩;have hth:=tthaw_ok τ.g τ.h.length cs;obtain ⟨X1,F1,h1,_⟩:=h.exposeAll (cs.map TC.pv) (id:=id) (e:=0) (j:=0) (b:=τ.h.length) (B:=⟨if w then 2 else 1,cs.length,[],[cs.map TC.pv]⟩) (c:=cs.map TC.pv) hs rfl (by rw [List.drop_zero];exact List.take_length) (fun y hy=>by
    rw [hth] at hy;obtain ⟨z,hz,rfl⟩:=List.mem_map.1 hy;have:=(tthaw_blk hz).1;exact img_fresh _ (by simp only [wsl];omega)) []
   refine ⟨X1,F1,?_⟩;have e1:splice (cs.map TC.pv) 0 (thaw τ.h.length (cs.map TC.pv)).1=(tthaw τ.g τ.h.length cs).1.map TC.pv:=by
    rw [hth];simp [splice,tthaw_len]
   have e2:=setTs_slots (n:=n) ((id,.var w (tthaw τ.g τ.h.length cs).1)::(tthaw τ.g τ.h.length cs).2) τ.h (τ.r.map fun e=>(e.1,e.2.rv));show SimW G X1 F1 (img n ⟨τ.r,setTs τ.h ((id,.var w (tthaw τ.g τ.h.length cs).1)::(tthaw τ.g τ.h.length cs).2),τ.g+1⟩) acts w0;have e3:img n ⟨τ.r,setTs τ.h ((id,.var w (tthaw τ.g τ.h.length cs).1)::(tthaw τ.g τ.h.length cs).2),τ.g+1⟩=setSlots (img n τ) ((id,.live { (⟨if w then 2 else 1,cs.length,[],[cs.map TC.pv]⟩:Blk) with kids:=[],l:=[cs.map TC.pv].set 0 (splice (cs.map TC.pv) 0 (thaw τ.h.length (cs.map TC.pv)).1) })::(thaw τ.h.length (cs.map TC.pv)).2):=by
    rw [e1,hth];refine Eq.trans e2.symm ?_;simp only [List.map_cons,TB.slot,tthaw_len,List.set_cons_zero];rfl
   rw [e3];exact h1
  ·exact Tidy.refl hI
 ·exact rowExp_tidy hI _
 ·exact Tidy.refl hI
theorem ghO_ok (hI:Inv P τ) {b v:Nat} {x:Int} {R:Type} {K:TSt→Option R} {r:R} (h:ghO τ b v x K=some r):∃ τ',Tidy P n τ τ'∧K τ'=some r:=by
 unfold ghO at h;split at h
 ·rename_i t v' l hb;split at h
  ·rename_i hv;obtain rfl:=nbe hv;obtain ⟨e,he,h⟩:=bd_some h;obtain ⟨h0,he⟩:=ix_some he;have hok:=p_ia_go hI (id:=b) (v:=v) (m:=l.length) (k:=0) (x:=x) (t:=t) (l:=l) (e:=e) (by rw [hb];rfl) (by rw [hb];rfl) rfl h0 he;refine ⟨_,⟨fun G => ?_,inv_app hI hok none,NormR.refl _⟩,h⟩;have hsame:=hok.same;have:img n ⟨τ.r,setT τ.h b (.hole t v τ.g x (l.take x.toNat) ((cells t e).map .c) (l.drop (x.toNat+1)) (some l)),τ.g+1⟩=img n τ:=by
    simp only [img];have hs:(setT τ.h b (.hole t v τ.g x (l.take x.toNat) ((cells t e).map .c) (l.drop (x.toNat+1)) (some l))).map TB.slot=τ.h.map TB.slot:=hsame;rw [hs]
   show Wk G (img n τ) (img n ⟨τ.r,setT τ.h b (.hole t v τ.g x (l.take x.toNat) ((cells t e).map .c) (l.drop (x.toNat+1)) (some l)),τ.g+1⟩);rw [this];exact Wk.refl _
  ·cases h
 ·obtain ⟨_,h⟩:=gd_some h;exact ⟨τ,Tidy.refl hI,h⟩
 ·cases h
theorem ghT_ok:∀ {p:List (Nat×Nat)} {id:Nat} {τ:TSt} {R:Type} {K:TSt→Option R} {r:R},Inv P τ→ghT p id τ K=some r→∃ τ',Tidy P n τ τ'∧K τ'=some r
 | [],id,τ,R,K,r,hI,h=>⟨_,rowExp_tidy hI id,h⟩
 | (off,rg)::p,id,τ,R,K,r,hI,h=>by
  simp only [ghT] at h;split at h
  ·have h1:=rowExp_tidy (n:=n) hI id;obtain ⟨τ1,t1,h⟩:=ghO_ok (n:=n) h1.inv h;obtain ⟨τ2,t2,h⟩:=ghT_ok t1.inv h;exact ⟨τ2,(h1.trans t1).trans t2,h⟩
  ·cases h
theorem ghS_ok:∀ {l:List (Nat×List (Nat×Nat))} {τ:TSt} {R:Type} {K:TSt→Option R} {r:R},Inv P τ→ghS l τ K=some r→∃ τ',Tidy P n τ τ'∧K τ'=some r
 | [],τ,R,K,r,hI,h=>⟨τ,Tidy.refl hI,h⟩
 | (t,p)::l,τ,R,K,r,hI,h=>by
  simp only [ghS] at h;split at h
  ·obtain ⟨τ1,t1,h⟩:=ghT_ok (n:=n) hI h;obtain ⟨τ2,t2,h⟩:=ghS_ok t1.inv h;exact ⟨τ2,t1.trans t2,h⟩
  ·obtain ⟨τ1,t1,h⟩:=ghT_ok (n:=n) hI h;obtain ⟨τ2,t2,h⟩:=ghS_ok t1.inv h;exact ⟨τ2,t1.trans t2,h⟩
  ·cases h
theorem frzAll_tidy:∀ (l:List Nat) {τ:TSt},Inv P τ→Tidy P n τ (frzAll n l τ)
 | [],τ,hI=>Tidy.refl hI
 | t::l,τ,hI=>by
  simp only [frzAll];split
  ·have h1:=expR_tidy (n:=n) hI (t-100000);exact h1.trans (frzAll_tidy l h1.inv)
  ·have h1:=frzR_tidy (n:=n) hI t;have h2:=frzV_tidy (n:=n) h1.inv t;exact (h1.trans h2).trans (frzAll_tidy l h2.inv)
theorem idxOf_ok:∀ {l:List Nat} {x i:Nat},idxOf l x=some i→l[i]? = some x
 | [],x,i,h=>by cases h
 | y::r,x,i,h=>by
  simp only [idxOf] at h;split at h
  ·rename_i e;injection h with h;subst h;simp [nbe e]
  ·split at h
   ·rename_i k hk;injection h with h;subst h;simpa using idxOf_ok hk
   ·cases h
theorem tbAt_get:∀ (l:List TB) (i:Nat),tbAt l i=(l[i]?).getD .fresh
 | [],i=>by cases i<;>simp [tbAt]
 | s::l,0=>by simp [tbAt]
 | s::l,i+1=>by simp [tbAt,tbAt_get l i]
theorem lookT_map (f:TV→TV) (h0:f .un=.un):∀ (l:List (Nat×TV)) (t:Nat),lookT (l.map fun e=>(e.1,f e.2)) t=f (lookT l t)
 | [],t=>h0.symm
 | (s,v)::l,t=>by
  simp only [List.map_cons,lookT];split
  ·rfl
  ·exact lookT_map f h0 l t
theorem pureC_num {ρ:List Nat} {h:List TB} {c:TC} (hp:pureC c=true):numC ρ h c=c:=by
 cases c<;>first|rfl|cases hp
theorem pureCs_num {ρ:List Nat} {h:List TB}:∀ {l:List TC},pureCs l=true→l.map (numC ρ h)=l
 | [],_=>rfl
 | c::l,hp=>by
  simp only [pureCs,bae] at hp;simp [pureC_num hp.1,pureCs_num hp.2]
theorem pureR_num {ρ:List Nat} {h:List TB} {x:TR} (hp:pureCs x.cs=true):numR ρ h x=x:=by
 cases x with
 | one c =>
  simp only [TR.cs,pureCs,bae] at hp;simp [numR,pureC_num hp.1]
 | agg l=>simp only [numR,pureCs_num (l:=l) hp]
theorem pureRs_num {ρ:List Nat} {h:List TB}:∀ {l:List TR},pureRs l=true→l.map (numR ρ h)=l
 | [],_=>rfl
 | x::l,hp=>by
  simp only [pureRs,bae] at hp;simp [pureR_num hp.1,pureRs_num hp.2]
theorem pureV_num {ρ:List Nat} {h:List TB} {v:TV} (hp:pureV v=true):numV ρ h v=v:=by
 cases v with
 | r x=>simp only [numV,pureR_num (x:=x) hp]
 | tup l=>simp only [numV,pureRs_num (l:=l) hp]
 | un=>rfl
theorem toSC_pure:∀ {l:List TC} {m:List SC},toSC l=some m→pureCs l=true
 | [],_,_=>rfl
 | c::l,m,h=>by
  unfold toSC at h;split at h
  ·rename_i e;cases e
  ·rename_i e;injection e with e1 e2;subst e1 e2;split at h
   ·rename_i hm;simp only [pureCs,pureC,Bool.true_and];exact toSC_pure hm
   ·cases h
  ·cases h
theorem winOk_ok {ρ:List Nat}:∀ {l:List TB} {i:Nat},winOk ρ i l=true→∀ j cs,tbAt l j=.var true cs→ρ[i+j]? = some (i+j)
 | [],i,_,j,cs,e=>by cases j<;>cases e
 | b::l,i,h,0,cs,e=>by
  have e:b=.var true cs:=e;subst e;simp only [winOk,bae] at h;have h:=h.1;split at h
  ·rename_i k hk;rw [Nat.add_zero,hk,nbe h]
  ·cases h
 | b::l,i,h,j+1,cs,e=>by
  have h':winOk ρ (i+1) l=true:=by
   unfold winOk at h;split at h
   ·rename_i e;cases e
   ·rename_i e;injection e with e1 e2;subst e2;simp only [bae] at h;exact h.2
   ·rename_i e;injection e with e1 e2;subst e2;exact h
  have:=winOk_ok h' j cs e
  rwa [show i+1+j=i+(j+1) by omega] at this
theorem vlen_num {ρ:List Nat} {h:List TB} {tb:TB}:vlen (numB ρ h tb)=(vlen tb).map fun z=>(0,z.2):=by cases tb<;>rfl
theorem hinf_num {ρ:List Nat} {h:List TB} {tb:TB}:hinf (numB ρ h tb)=(hinf tb).map fun z=>(0,z.2):=by cases tb<;>rfl
theorem All2.map {α β γ:Type} {R:β→γ→Prop} {f:α→β} {g:α→γ}:∀ {l:List α},(∀ a∈l,R (f a) (g a))→All2 R (l.map f) (l.map g)
 | [],_=>.nil
 | a::l,h=>.cons (h a (by simp)) (All2.map fun b hb=>h b (by simp [hb]))
theorem All2.nrs {ρ:Nat→Nat} {σ':St} {l:List PV} (h:∀ p∈l,NoRef p):All2 (Rn ρ σ') l l:=by
 have:=All2.map (R:=Rn ρ σ') (f:=id) (g:=id) (l:=l) fun a ha=>.nr (h a ha)
 simpa using this
theorem All2.encs {ρ:Nat→Nat} {σ':St} {t:Ty} (l:List (Den t)):All2 (All2 (Rn ρ σ')) (l.map (enc t)) (l.map (enc t)):=All2.map fun a _=>All2.nrs (enc_nr t a)
theorem canon_tidy (hI:Inv P τ):Tidy P n τ (canon τ):=by
 unfold canon;generalize reachB τ.h 4000 (winIds 0 τ.h++idsR τ.r) []=ρ;simp only;split
 ·rename_i hc;simp only [bae] at hc;obtain ⟨⟨c1,c2⟩,c3⟩:=hc;have hnd:=nodupB_ok c1;have hlv:=allLive_ok c3
  let τ':TSt:=⟨τ.r.map fun e=>(e.1,numV ρ τ.h e.2),ρ.map fun i=>numB ρ τ.h (tbAt τ.h i),1⟩
  show Tidy P n τ τ';have hat:∀ {i id:Nat},ρ[i]? = some id→tbAt τ'.h i=numB ρ τ.h (tbAt τ.h id):=by
   intro i id h;rw [tbAt_get];simp [τ',h]
  have hge:∀ i,ρ[i]? = none→tbAt τ'.h i=.fresh:=by
   intro i h;rw [tbAt_get];simp [τ',h]
  have hrho:∀ {i id:Nat},ρ[i]? = some id→ρ.getD i 0=id:=by intro i id h;simp [h]
  have hnf:∀ {i id:Nat},ρ[i]? = some id→(img n τ').slot i≠.fresh:=by
   intro i id h;rw [img_slot,hat h];have:=hlv id (List.mem_of_getElem? h)
   revert this
   cases tbAt τ.h id<;>intro k<;>first|(intro e;cases e;done)|cases k
  have hC:∀ c,cok P τ.h τ.g c→Rn (fun i=>ρ.getD i 0) (img n τ') c.pv (numC ρ τ.h c).pv:=by
   intro c hc;cases c with
   | c x=>exact .nr x.nr
   | rp l j=>exact .nr (.rp nr_map)
   | fn f l=>exact .nr (.fn fun q hq=>by obtain ⟨z,_,rfl⟩:=List.mem_map.1 hq;exact capPV_nr z)
   | fv f m a r p=>exact .nr (.fn fun q hq=>(hc.1 q hq).1)
   | un=>exact .un (by simp [TC.pv])
   | fq f l=>exact .un (by simp [TC.pv])
   | rq l=>exact .nr (.rp fun q hq=>by
     have:q=.rp (l.map SC.pv) 0:=by simpa using hq
     subst this;exact .rp nr_map)
   | ref id v m =>
    simp only [numC];split
    ·rename_i i v' m' hi hv;split
     ·have:=idxOf_ok hi;have e:=Rn.ref (ρ:=fun i=>ρ.getD i 0) (lo:=0) (len:=m) (full:=m) (hnf this);simp only [hrho this] at e;exact e
     ·exact .un (by simp [TC.pv])
    ·exact .un (by simp [TC.pv])
   | part id v lo len m =>
    simp only [numC];split
    ·rename_i i v' m' hi hv;split
     ·have:=idxOf_ok hi;have e:=Rn.ref (ρ:=fun i=>ρ.getD i 0) (lo:=lo) (len:=len) (full:=m) (hnf this);simp only [hrho this] at e;exact e
     ·exact .un (by simp [TC.pv])
    ·exact .un (by simp [TC.pv])
   | vp id j =>
    simp only [numC];split
    ·rename_i i hi;have:=idxOf_ok hi;have e:=Rn.ptr (ρ:=fun i=>ρ.getD i 0) (full:=1) (e:=0) (j:=j) (hnf this);simp only [hrho this] at e;exact e
    ·exact .un (by simp [TC.pv])
   | hp id v m e j =>
    simp only [numC];split
    ·rename_i i v' m' hi hv;split
     ·have:=idxOf_ok hi;have e:=Rn.ptr (ρ:=fun i=>ρ.getD i 0) (full:=m) (e:=e) (j:=j) (hnf this);simp only [hrho this] at e;exact e
     ·exact .un (by simp [TC.pv])
    ·exact .un (by simp [TC.pv])
  have hR:∀ x:TR,(∀ c∈x.cs,cok P τ.h τ.g c)→RnR1 (fun i=>ρ.getD i 0) (img n τ') x.r1 (numR ρ τ.h x).r1:=by
   intro x hx;cases x with
   | one c=>exact hC c (hx c (by simp [TR.cs]))
   | agg l =>
    simp only [numR,TR.r1,RnR1,List.map_map];exact All2.map fun c hc=>hC c (hx c hc)
  have hlook:∀ t,∀ c∈(lookT τ.r t).cs,cok P τ.h τ.g c:=by
   intro t c hc;rcases lookT_mem τ.r t with k|⟨z,hz,k1,k2⟩
   ·rw [k] at hc;simp [TV.cs] at hc
   ·rw [k2] at hc;exact hI.regs z hz c hc
  have hlm:∀ t,lookT τ'.r t=numV ρ τ.h (lookT τ.r t):=fun t=>lookT_map (numV ρ τ.h) rfl τ.r t
  have hck:∀ c,cok P τ.h τ.g c→cok P τ'.h 1 (numC ρ τ.h c):=by
   intro c hc;cases c with
   | ref id v m =>
    simp only [numC];split
    ·rename_i i v' m' hi hv;split
     ·rename_i e;have e:=nbe e;subst e;refine ⟨Nat.one_pos,fun k hk => ?_⟩;rw [hat (idxOf_ok hi),vlen_num,hv] at hk;simp at hk;rw [hc.2 _ hv];exact hk
     ·trivial
    ·trivial
   | part id v lo len m =>
    simp only [numC];split
    ·rename_i i v' m' hi hv;split
     ·rename_i e;have e:=nbe e;subst e;refine ⟨⟨Nat.one_pos,fun k hk => ?_⟩,hc.2⟩;rw [hat (idxOf_ok hi),vlen_num,hv] at hk;simp at hk;rw [hc.1.2 _ hv];exact hk
     ·trivial
    ·trivial
   | hp id v m e j =>
    simp only [numC];split
    ·rename_i i v' m' hi hv;split
     ·rename_i e';have e':=nbe e';subst e';refine ⟨Nat.one_pos,fun k q hk => ?_⟩;rw [hat (idxOf_ok hi),hinf_num,hv] at hk;simp at hk;obtain ⟨k1,k2⟩:=m';have:=hc.2 _ _ hv;simp at hk;omega
     ·trivial
    ·trivial
   | vp id j=>simp only [numC];split<;>trivial
   | fv f m a r p=>exact hc
   | _=>trivial
  refine ⟨fun G=>Wk.ren (fun i=>ρ.getD i 0) ⟨rfl,rfl,rfl,fun t => ?_,fun i B' hB' => ?_,fun i hi => ?_,fun i j B B' hi hj e => ?_,fun i B hB hk => ?_⟩,⟨fun e he c hc => ?_,fun i => ?_⟩,fun t => ?_⟩
  ·rw [img_reg,img_reg,hlm];have h1:=hlook t;generalize lookT τ.r t=v at h1;cases v with
   | r x=>exact hR x h1
   | tup l =>
    simp only [TV.rv,numV,RnRV,List.map_map];exact All2.map fun x hx=>hR x fun c hc=>h1 c (by simp only [TV.cs,List.mem_flatMap];exact ⟨x,hx,hc⟩)
   | un=>trivial
  ·cases hi:ρ[i]? with
   | none=>rw [img_slot,hge i hi] at hB';cases hB'
   | some id =>
    rw [img_slot,hat hi] at hB';have hl:=hlv id (List.mem_of_getElem? hi);have hbk:=hI.blks id;simp only [hrho hi,img_slot]
    revert hB' hl hbk
    cases tbAt τ.h id with
    | var w cs =>
     intro hB' _ hbk;simp only [numB,TB.slot,Slot.live.injEq] at hB';subst hB';refine ⟨_,rfl,rfl,by simp,.cons ?_ .nil⟩;rw [List.map_map];exact All2.map fun c hc=>hC c (hbk c hc)
    | nb v k =>
     intro hB' _ _;simp only [numB,TB.slot,Slot.live.injEq] at hB';subst hB';exact ⟨_,rfl,rfl,rfl,.nil⟩
    | sl t v l =>
     intro hB' _ _;simp only [numB,TB.slot,Slot.live.injEq] at hB';subst hB';exact ⟨_,rfl,rfl,rfl,All2.encs l⟩
    | hole t v hv y pre row post memo =>
     intro hB' _ hbk;simp only [numB,TB.slot,Slot.live.injEq] at hB';subst hB';refine ⟨_,rfl,rfl,rfl,(All2.encs pre).app (.cons ?_ (All2.encs post))⟩;rw [List.map_map];exact All2.map fun c hc=>hC c (hbk.2.2.1 c hc)
    | fresh=>intro hB';cases hB'
    | dead=>intro hB';cases hB'
  ·cases hi':ρ[i]? with
   | none=>rw [img_slot,hge i hi'] at hi;exact (hi rfl).elim
   | some id =>
    simp only [hrho hi',img_slot];have hl:=hlv id (List.mem_of_getElem? hi')
    revert hl
    cases tbAt τ.h id<;>intro k<;>first|(intro e;cases e;done)|cases k
  ·cases hi':ρ[i]? with
   | none=>rw [img_slot,hge i hi'] at hi;cases hi
   | some id =>
    cases hj':ρ[j]? with
    | none=>rw [img_slot,hge j hj'] at hj;cases hj
    | some jd =>
     simp only [hrho hi',hrho hj'] at e;subst e;obtain ⟨a1,a2⟩:=List.getElem?_eq_some_iff.1 hi';obtain ⟨b1,b2⟩:=List.getElem?_eq_some_iff.1 hj';exact (List.getElem_inj hnd).1 (a2.trans b2.symm)
  ·rw [img_slot] at hB;have hv:∃ cs,tbAt τ.h i=.var true cs:=by
    revert hB
    cases tbAt τ.h i with
    | var w cs =>
     intro hB;simp only [TB.slot,Slot.live.injEq] at hB;subst hB;cases w with
     | true=>exact ⟨cs,rfl⟩
     | false=>simp at hk
    | nb v k=>intro hB;simp only [TB.slot,Slot.live.injEq] at hB;subst hB;cases hk
    | sl t v l=>intro hB;simp only [TB.slot,Slot.live.injEq] at hB;subst hB;cases hk
    | hole t v hv y pre row post memo=>intro hB;simp only [TB.slot,Slot.live.injEq] at hB;subst hB;cases hk
    | fresh=>intro hB;cases hB
    | dead=>intro hB;cases hB
   obtain ⟨cs,hcs⟩:=hv;have:=winOk_ok c2 i cs hcs;rw [Nat.zero_add] at this;refine ⟨by simpa using hrho this,?_⟩;rw [img_slot,hat this,hcs];exact ⟨_,rfl⟩
  ·obtain ⟨z,hz,rfl⟩:=List.mem_map.1 he;have hz':=hI.regs z hz;simp only at hc;obtain ⟨s,v⟩:=z;cases v with
   | r x =>
    cases x with
    | one c0 =>
     have:c=numC ρ τ.h c0:=by simpa [numV,numR,TV.cs,TR.cs] using hc
     subst this;exact hck _ (hz' c0 (by simp [TV.cs,TR.cs]))
    | agg l =>
     obtain ⟨c0,hc0,rfl⟩:=List.mem_map.1 (show c∈l.map (numC ρ τ.h) from hc);exact hck _ (hz' c0 hc0)
   | tup l =>
    simp only [numV,TV.cs,List.mem_flatMap,List.mem_map] at hc;obtain ⟨x,⟨y,hy,rfl⟩,hc⟩:=hc;have hy':∀ c∈y.cs,cok P τ.h τ.g c:=fun c hc=>hz' c (by simp only [TV.cs,List.mem_flatMap];exact ⟨y,hy,hc⟩)
    cases y with
    | one c0 =>
     have:c=numC ρ τ.h c0:=by simpa [numR,TR.cs] using hc
     subst this;exact hck _ (hy' c0 (by simp [TR.cs]))
    | agg l =>
     obtain ⟨c0,hc0,rfl⟩:=List.mem_map.1 (show c∈l.map (numC ρ τ.h) from hc);exact hck _ (hy' c0 hc0)
   | un=>simp [numV,TV.cs] at hc
  ·show bok P τ'.h 1 (tbAt τ'.h i);cases hi:ρ[i]? with
   | none=>rw [hge i hi];trivial
   | some id =>
    rw [hat hi];have hbk:=hI.blks id
    revert hbk
    cases tbAt τ.h id with
    | var w cs =>
     intro hbk c hc;obtain ⟨c0,hc0,rfl⟩:=List.mem_map.1 hc;exact hck _ (hbk c0 hc0)
    | nb v k=>intro _;exact Nat.one_pos
    | sl t v l=>intro _;exact Nat.one_pos
    | hole t v hv y pre row post memo =>
     rintro ⟨q1,q2,q3,q4,q5,q6⟩;refine ⟨Nat.one_pos,Nat.one_pos,fun c hc => ?_,by simpa using q4,q5,fun l hl => ?_⟩
     ·obtain ⟨c0,hc0,rfl⟩:=List.mem_map.1 hc;exact hck _ (q3 c0 hc0)
     ·split at hl
      ·rename_i hr;rw [pureCs_num (toSC_pure hr)];exact q6 l hl
      ·cases hl
    | _=>intro _;trivial
  ·rw [hlm];cases hp:pureV (lookT τ.r t) with
   | true=>exact .inl (pureV_num hp)
   | false=>exact .inr (.inr rfl)
 ·exact Tidy.refl hI
theorem norm_tidy (hI:Inv P τ) (frz lv:List Nat):Tidy P n τ (norm n frz lv τ):=by
 have h0:=selR_tidy (n:=n) hI lv;have h1:=h0.trans (canon_tidy h0.inv);have h2:=(foldAll_tidy (n:=n) (canon ⟨selR τ.r lv,τ.h,τ.g⟩).h.length h1.inv).trans (foldAll_tidy (n:=n) (canon ⟨selR τ.r lv,τ.h,τ.g⟩).h.length (foldAll_tidy (n:=n) (canon ⟨selR τ.r lv,τ.h,τ.g⟩).h.length h1.inv).inv);have h3:=frzAll_tidy (n:=n) frz h2.inv;have h4:=selR_tidy (n:=n) h3.inv lv;exact ((h1.trans h2).trans (h3.trans h4)).trans (canon_tidy h4.inv)
end
def foldI (ids:List Nat):Nat→TSt→TSt
 | 0,τ=>τ
 | c+1,τ=>foldI ids c (match memB c ids with
  | true=>τ
  | false=>foldC (colH τ c) c)
def tidyI (ids lv:List Nat) (τ:TSt):TSt:=foldI ids τ.h.length ⟨selR τ.r lv,τ.h,τ.g⟩
abbrev Inl (P:Program):=InE P→List Nat→TSt→{R:Type}→(Exit→TSt→Option R)→Option R
def goI {P:Program} (I:Inl P) (E:InE P) (ids:List Nat) (l:List Ix) (d:Option Nat) (τ:TSt) {R:Type} (K:TSt→Option R):Option R:=match evOs τ l with
 | some vs=>match Nat.ble vs.length E.n with
  | true=>I E (idsR τ.r++ids) ⟨enR 0 vs,τ.h,τ.g⟩ fun e τ'=>match isRet e,resIT τ' E.rs with
   | true,some ys=>K ⟨putT τ.r d (resTV ys),τ'.h,τ'.g⟩
   | _,_=>none
  | false=>none
 | none=>none
def regX {P:Program} (tab:List (AEnt P)) (I:Inl P) (ids:List Nat):List (AOp×Option Ty)→List (Nat×Bool)→TSt→{R:Type}→(TSt→Option R)→Option R
 | [],kn,τ,_,K=>K τ
 | (x,et)::r,kn,τ,_,K=>match inlT tab x with
  | none=>stepT τ kn tab x et fun τ' kn' _ _=>regX tab I ids r kn' τ' K
  | some (E,l) =>
   let go (kn:List (Nat×Bool)):Option _:=goI I E ids l x.d τ fun τ'=>regX tab I ids r (delK x.d kn) τ' K
   let no (kn:List (Nat×Bool)):Option _:=regX tab I ids r (delK x.d kn) ⟨putT τ.r x.d (.tup []),τ.h,τ.g⟩ K
   match x.g with
   | none=>go kn
   | some (d,t)=>match lkK kn d with
    | some v=>match v,t with
     | true,true=>go kn
     | false,false=>go kn
     | _,_=>no kn
    | none=>match lookT τ.r d with
     | .r (.one (.c (.b v)))=>match t with
      | true=>cnd v (go ((d,true)::kn)) (no ((d,false)::kn))
      | false=>cnd v (no ((d,true)::kn)) (go ((d,false)::kn))
     | .tup []=>no kn
     | _=>none
def unr:Nat→(TSt→{R:Type}→(Exit→TSt→Option R)→Option R)→TSt→{R:Type}→(Exit→TSt→Option R)→Option R
 | 0,f,τ,_,K=>none
 | k+1,f,τ,_,K=>f τ fun e τ'=>match e with
  | .normal=>unr k f τ' K
  | e=>K e τ'
def irunX {P:Program} (tab:List (AEnt P)) (I:Inl P) (ids:List Nat):ICd→TSt→{R:Type}→(Exit→TSt→Option R)→Option R
 | .skip,τ,_,K=>K .normal τ
 | .reg ops lv,τ,_,K=>regX tab I ids ops [] τ fun τ'=>K .normal (tidyI ids lv τ')
 | .dreg ord ops lv,τ,_,K=>dregT tab ops [] τ fun τ' ts=>match okOrd ord&&okPairs (ops.length+1) ord ts with
  | true=>K .normal (tidyI ids lv τ')
  | false=>none
 | .seq x y,τ,_,K=>irunX tab I ids x τ fun e τ'=>match e with
  | .normal=>irunX tab I ids y τ' K
  | e=>K e τ'
 | .cond c x y,τ,_,K=>match τ.ev1 c with
  | .c (.b v)=>cnd v (irunX tab I ids x τ K) (irunX tab I ids y τ K)
  | _=>none
 | .block i x,τ,_,K=>irunX tab I ids x τ fun e τ'=>match e with
  | .exit j=>match Nat.beq j i with
   | true=>K .normal τ'
   | false=>K (.exit j) τ'
  | e=>K e τ'
 | .loop x,τ,_,K=>unr 4 (irunX tab I ids x) τ K
 | .exit i,τ,_,K=>K (.exit i) τ
 | .ret,τ,_,K=>K .ret τ
 | .bad,_,_,_=>none
def irunN {P:Program} (tab:List (AEnt P)):Nat→Inl P
 | 0,_,_,_,_,_=>none
 | k+1,E,ids,τ,_,K=>irunX tab (irunN tab k) ids E.code τ K
def regT {P:Program} (tab:List (AEnt P)) (ops:List (AOp×Option Ty)) (kn:List (Nat×Bool)) (τ:TSt) {R:Type} (K:TSt→Option R):Option R:=regX tab (irunN tab 5) [] ops kn τ K
section
variable {P:Program} {τ:TSt} {n b:Nat} {kn:List (Nat×Bool)} {tab:List (AEnt P)} {R:Type} {r:R}
theorem foldI_tidy (ids:List Nat):∀ (k:Nat) {τ:TSt},Inv P τ→TidyS P n τ (foldI ids k τ)
 | 0,τ,hI=>TidyS.refl hI
 | k+1,τ,hI=>by
  unfold foldI;split
  ·exact foldI_tidy ids k hI
  ·have h1:=colH_tidyS (n:=n) hI k;have h2:=foldC_tidyS (n:=n) h1.inv k;exact (h1.trans h2).trans (foldI_tidy ids k h2.inv)
theorem tidyI_tidy (ids lv:List Nat) (hI:Inv P τ):TidyS P n τ (tidyI ids lv τ):=by
 have h1:=selR_tidyS (n:=n) hI lv;exact h1.trans (foldI_tidy ids _ h1.inv)
def InlOk (P:Program) (I:Inl P):Prop:=∀ (E:InE P) (ids:List Nat) (τ:TSt) (R:Type) (K:Exit→TSt→Option R) (r:R) (S:List Env) (G:Fr) (acts:List Act),Inv P τ→I E ids τ K=some r →
 TA P G acts E.n E.code.ac ((img E.n τ).wS S) fun e σ=>∃ τ',σ=(img E.n τ').wS S∧(Inv P τ'∧HLe τ.h τ.g τ'.h τ'.g)∧K e τ'=some r
theorem regX_ok {I:Inl P} (hIn:InlOk P I) {ids:List Nat} (S:List Env) {J:(Nat→TV)→Prop}:∀ {ops:List (AOp×Option Ty)} {kn:List (Nat×Bool)} {τ:TSt} {K:TSt→Option R},Stable (wrOps ops) J→J (lookT τ.r)→Inv P τ→KnOk kn τ.r→regX tab I ids ops kn τ K=some r→regK P (opsOf ops) ((img n τ).wS S) fun σ'=>∃ τ',σ'=(img n τ').wS S∧(Inv P τ'∧HLe τ.h τ.g τ'.h τ'.g)∧J (lookT τ'.r)∧K τ'=some r
 | [],kn,τ,K,hs,hJ,hI,hkn,h=>⟨τ,rfl,⟨hI,HLe.refl⟩,hJ,h⟩
 | (x,et)::ops,kn,τ,K,hs,hJ,hI,hkn,h=>by
  obtain ⟨w1,w2⟩:=wrOps_mem (x:=x) (et:=et) (ops:=ops);show stepK P ((img n τ).wS S) _ x fun σ'=>regK P (opsOf ops) σ' _
  simp only [regX] at h;split at h
  ·have h1:=(stepT_ok (n:=n) S hI hkn h).2;refine stepK_mono (fun σ' hq => ?_) h1;obtain ⟨τ',rfl,⟨hI',hle⟩,hv,kn',rs,te,hkn',hk⟩:=hq;refine regK_mono (fun σ' hq => ?_) (regX_ok hIn S (hs.sub w2) (hs.put w1 hv hJ) hI' hkn' hk);obtain ⟨τ'',k1,⟨k2,k3⟩,k4,k5⟩:=hq;exact ⟨τ'',k1,⟨k2,hle.trans k3⟩,k4,k5⟩
  ·rename_i E l hin;have goX:∀ (kn:List (Nat×Bool)),KnOk kn τ.r→(goI I E ids l x.d τ fun τ'=>regX tab I ids ops (delK x.d kn) τ' K)=some r→∃ f l,x.k=.call f l∧inlK P ((img n τ).wS S) f (l.map ((img n τ).wS S).ev) fun σ' v=>regK P (opsOf ops) (σ'.putO x.d v) fun σ'=>∃ τ',σ'=(img n τ').wS S∧(Inv P τ'∧HLe τ.h τ.g τ'.h τ'.g)∧J (lookT τ'.r)∧K τ'=some r:=by
    clear h;intro kn hkn h;unfold goI at h;split at h
    ·rename_i vs hvs;split at h
     ·rename_i hlen;obtain ⟨e1,k1⟩:=evOs_ok (n:=n) hI hvs;have e1:List.map ((img n τ).wS S).ev l=vs.map TV.rv:=e1;unfold inlT at hin;split at hin
      ·rename_i f l' hkk;split at hin
       ·rename_i E' hfi;injection hin with hin;injection hin with i1 i2;subst i1 i2;have hid:=findI_ok hfi;subst hid;obtain ⟨fn,c,rv,hf,hname,hb,hrs,hrv,hnt,hcc⟩:=E'.ok;refine ⟨_,_,hkk,fn,c,rv,E'.rs,hf,hname,hb,hrs,hrv,?_,fun G acts => ?_⟩
        ·rw [e1,List.length_map,hnt];exact Nat.le_of_ble_eq_true hlen
        ·have hIc:Inv P ⟨enR 0 vs,τ.h,τ.g⟩:=⟨fun e he c hc=>k1 _ (enR_mem he) c hc,hI.blks⟩
         have ht:=hIn E' _ _ _ _ _ ((img n τ).env::S) G acts hIc h c hcc;have hst:enterI fn.ntmps (l'.map ((img n τ).wS S).ev) ((img n τ).wS S)=(img E'.n ⟨enR 0 vs,τ.h,τ.g⟩).wS ((img n τ).env::S):=by
          rw [hnt,e1];show (⟨⟨E'.n,regsI 0 (vs.map TV.rv)⟩,((img n τ).env::S),τ.h.map TB.slot⟩:St)=⟨⟨E'.n,(enR 0 vs).map fun e=>(e.1,e.2.rv)⟩,((img n τ).env::S),τ.h.map TB.slot⟩
          rw [enR_rv]
         rw [hst];refine ht.mono fun e σ' hq => ?_
         obtain ⟨τ',rfl,⟨hI',hle⟩,hk⟩:=hq;split at hk
         ·rename_i ys hret hys;obtain ⟨r1,r2⟩:=resIT_ok (n:=E'.n) ((img n τ).env::S) hI' hys;refine ⟨by cases e<;>simp [isRet] at hret<;>simp,rfl,_,r1,?_⟩;have hle':HLe τ.h τ.g τ'.h τ'.g:=hle;have hI2:Inv P ⟨putT τ.r x.d (resTV ys),τ'.h,τ'.g⟩:=by
           refine ⟨fun e he c hc => ?_,hI'.blks⟩;cases hd:x.d with
           | none=>rw [hd] at he;exact hle'.cok (hI.regs e he c hc)
           | some d =>
            rw [hd] at he;rcases List.mem_cons.1 he with rfl|he
            ·obtain ⟨y,hy,hc⟩:=resTV_cs hc;exact r2 y hy c hc
            ·exact hle'.cok (hI.regs e he c hc)
          have:=regX_ok hIn S (hs.sub w2) (hs.put w1 ⟨_,rfl⟩ hJ) hI2 (hkn.put x.d (resTV ys)) hk;have hst2:(⟨(img n τ).env,S,((img E'.n τ').wS ((img n τ).env::S)).H⟩:St).putO x.d (resRV (ys.map TR.r1))=(img n ⟨putT τ.r x.d (resTV ys),τ'.h,τ'.g⟩).wS S:=by
           rw [← resTV_rv];cases x.d<;>rfl
          rw [← hst2] at this;refine regK_mono (fun σ' hq => ?_) this;obtain ⟨τ'',k1,⟨k2,k3⟩,k4,k5⟩:=hq;exact ⟨τ'',k1,⟨k2,hle'.trans k3⟩,k4,k5⟩
         ·cases hk
       ·cases hin
      ·cases hin
     ·cases h
    ·cases h
   have noX:∀ (kn:List (Nat×Bool)),KnOk kn τ.r→regX tab I ids ops (delK x.d kn) ⟨putT τ.r x.d (.tup []),τ.h,τ.g⟩ K=some r→regK P (opsOf ops) (((img n τ).wS S).putO x.d (.tup [])) fun σ'=>∃ τ',σ'=(img n τ').wS S∧(Inv P τ'∧HLe τ.h τ.g τ'.h τ'.g)∧J (lookT τ'.r)∧K τ'=some r:=by
    clear h;intro kn hkn h;have e:(img n τ).putO x.d (.tup [])=img n ⟨putT τ.r x.d (.tup []),τ.h,τ.g⟩:=putT_none (v:=.tup []);rw [putO_wS,e];exact regX_ok hIn S (hs.sub w2) (hs.put w1 ⟨_,rfl⟩ hJ) (inv_put hI x.d) (hkn.put x.d _) h
   unfold stepK;split at h
   ·rename_i hg;simp only [hg];exact .inr (goX _ hkn h)
   ·rename_i d t hg;simp only [hg,reg_wS,img_reg];split at h
    ·rename_i v hv;have hv:=hkn d v hv;simp only [hv,TV.rv,TR.r1,TC.pv,SC.pv];split at h
     ·exact ⟨fun _=>.inr (goX _ hkn h),fun e=>(e rfl).elim⟩
     ·exact ⟨fun _=>.inr (goX _ hkn h),fun e=>(e rfl).elim⟩
     ·rename_i h1 h2;have hne:v≠t:=by
       intro e;subst e;cases v with
       | true=>exact h1 rfl rfl
       | false=>exact h2 rfl rfl
      exact ⟨fun e=>(hne e).elim,fun _=>noX _ hkn h⟩
    ·split at h
     ·rename_i v hv;simp only [hv,TV.rv,TR.r1,TC.pv,SC.pv];split at h
      ·rcases cnd_some h with ⟨rfl,h⟩|⟨rfl,h⟩
       ·exact ⟨fun _=>.inr (goX _ (hkn.cons hv) h),fun e=>(e rfl).elim⟩
       ·exact ⟨fun e=>(by cases e),fun _=>noX _ (hkn.cons hv) h⟩
      ·rcases cnd_some h with ⟨rfl,h⟩|⟨rfl,h⟩
       ·exact ⟨fun e=>(by cases e),fun _=>noX _ (hkn.cons hv) h⟩
       ·exact ⟨fun _=>.inr (goX _ (hkn.cons hv) h),fun e=>(e rfl).elim⟩
     ·rename_i hv;simp only [hv,TV.rv,List.map_nil];exact noX _ hkn h
     ·cases h
theorem TA.post {G:Fr} {k:AC} {σ:St} {acts:List Act} {Q:Exit→St→Prop} (h:TA P G acts n k σ fun e σ=>∃ σ',Wk G σ σ'∧Q e σ'):TA P G acts n k σ Q:=fun c hc a w s =>
 wp_mono (h c hc a w s) fun e a w ⟨σ',⟨σ'',hw,hq⟩,hs⟩=>⟨σ'',hq,hw _ _ hs⟩
def unrP (P:Program) (G:Fr) (acts:List Act) (n:Nat) (k:AC) (Q:Exit→St→Prop):Nat→St→Prop
 | 0,_=>False
 | m+1,σ=>TA P G acts n k σ fun e σ'=>match e with
  | .normal=>unrP P G acts n k Q m σ'
  | e=>Q e σ'
theorem TA.unr {G:Fr} {acts:List Act} {k:AC} {Q:Exit→St→Prop} {m:Nat} {σ:St} (h:unrP P G acts n k Q m σ):TA P G acts n (.loop k) σ Q:=by
 refine TA.loop (fun m σ=>unrP P G acts n k Q m σ) h fun m σ hm => ?_
 cases m with
 | zero=>exact hm.elim
 | succ m =>
  refine hm.mono fun e σ' hq => ?_
  cases e with
  | normal=>exact ⟨m,Nat.lt_succ_self _,hq⟩
  | _=>exact hq
theorem irunX_ok (hm:P.follows .mixedOrders=true) {I:Inl P} (hIn:InlOk P I) {ids:List Nat} {G:Fr} {acts:List Act} (S:List Env):∀ (x:ICd) {τ:TSt} {R:Type} {K:Exit→TSt→Option R} {r:R},Inv P τ→irunX tab I ids x τ K=some r→TA P G acts n x.ac ((img n τ).wS S) fun e σ=>∃ τ',σ=(img n τ').wS S∧(Inv P τ'∧HLe τ.h τ.g τ'.h τ'.g)∧K e τ'=some r
 | .skip,τ,R,K,r,hI,h=>TA.skip ⟨τ,rfl,⟨hI,HLe.refl⟩,h⟩
 | .ret,τ,R,K,r,hI,h=>TA.ret ⟨τ,rfl,⟨hI,HLe.refl⟩,h⟩
 | .exit i,τ,R,K,r,hI,h=>TA.exit ⟨τ,rfl,⟨hI,HLe.refl⟩,h⟩
 | .bad,τ,R,K,r,hI,h=>by cases h
 | .loop x,τ,R,K,r,hI,h=>by
  simp only [irunX] at h;refine TA.unr (m:=4) ?_;have key:∀ (m:Nat) {τ1:TSt},Inv P τ1→HLe τ.h τ.g τ1.h τ1.g→unr m (irunX tab I ids x) τ1 K=some r→unrP P G acts n x.ac (fun e σ=>∃ τ',σ=(img n τ').wS S∧(Inv P τ'∧HLe τ.h τ.g τ'.h τ'.g)∧K e τ'=some r) m ((img n τ1).wS S):=by
   intro m;induction m with
   | zero=>intro τ1 _ _ h;cases h
   | succ m ih =>
    intro τ1 hI1 hl1 h;simp only [unr] at h;refine (irunX_ok hm hIn S x hI1 h).mono fun e σ hq => ?_
    obtain ⟨τ',rfl,⟨hI',hl⟩,hk⟩:=hq;cases e with
    | normal=>exact ih hI' (hl1.trans hl) hk
    | _=>exact ⟨τ',rfl,⟨hI',hl1.trans hl⟩,hk⟩
  exact key 4 hI HLe.refl h
 | .reg ops lv,τ,R,K,r,hI,h=>by
  simp only [irunX] at h;refine TA.post (TA.reg rfl (regK_mono (fun σ' hq => ?_) (regX_ok hIn (n:=n) S (J:=fun _=>True) (fun _ _ _ _ _=>trivial) trivial hI (fun _ _ e=>by cases e) h)));obtain ⟨τ',rfl,⟨k2,k3⟩,_,k4⟩:=hq;have ht:=tidyI_tidy (n:=n) ids lv k2;exact ⟨_,ht.wk G S,_,rfl,⟨ht.inv,k3.trans ht.le⟩,k4⟩
 | .dreg ord ops lv,τ,R,K,r,hI,h=>by
  simp only [irunX] at h;have h0:=dregT_ok (n:=n) S (J:=fun _=>True) (fun _ _ _ _ _=>trivial) trivial hI (fun _ _ e=>by cases e) h;have hoo:okOrd ord=true:=by
   obtain ⟨ts,hq,_⟩:=dreg_text h0;obtain ⟨τ',_,_,_,h4⟩:=hq;split at h4
   ·rename_i ho;rw [bae] at ho;exact ho.1
   ·cases h4
  refine TA.post (TA.dreg (ops.length+1) hm rfl hoo (dregK_mono (fun ts hq => ?_) h0));obtain ⟨τ',h1,⟨h2,h2'⟩,h3,h4⟩:=hq;split at h4
  ·rename_i ho;rw [bae] at ho;have ht:=tidyI_tidy (n:=n) ids lv h2;exact ⟨ho.2,_,by rw [h1];exact ht.wk G S,_,rfl,⟨ht.inv,h2'.trans ht.le⟩,h4⟩
  ·cases h4
 | .seq x y,τ,R,K,r,hI,h=>by
  simp only [irunX] at h;refine TA.seq ((irunX_ok hm hIn S x hI h).mono fun e σ hq => ?_);obtain ⟨τ',rfl,⟨hI',hl⟩,hk⟩:=hq;cases e with
  | normal =>
   refine (irunX_ok hm hIn S y hI' hk).mono fun e σ hq => ?_
   obtain ⟨τ'',rfl,⟨hI'',hl2⟩,hk⟩:=hq;exact ⟨τ'',rfl,⟨hI'',hl.trans hl2⟩,hk⟩
  | _=>exact ⟨τ',rfl,⟨hI',hl⟩,hk⟩
 | .cond c x y,τ,R,K,r,hI,h=>by
  simp only [irunX] at h;split at h
  ·rename_i v hv;obtain ⟨e0,_⟩:=ev1_ok (n:=n) hI hv (by simp);have e1:((img n τ).wS S).ev1 c=.b v:=e0;rcases cnd_some h with ⟨rfl,h⟩|⟨rfl,h⟩
   ·exact TA.cond e1 (fun _=>irunX_ok hm hIn S x hI h) fun e=>by cases e
   ·exact TA.cond e1 (fun e=>by cases e) fun _=>irunX_ok hm hIn S y hI h
  ·cases h
 | .block i x,τ,R,K,r,hI,h=>by
  simp only [irunX] at h;refine TA.block ((irunX_ok hm hIn S x hI h).mono fun e σ hq => ?_);obtain ⟨τ',rfl,hI',hk⟩:=hq;cases e with
  | exit j =>
   simp only [blk];simp only at hk;split at hk
   ·rename_i hb;rw [if_pos (nbe hb)];exact ⟨τ',rfl,hI',hk⟩
   ·rename_i hb;rw [if_neg fun e=>by subst e;rw [Nat.beq_refl] at hb;cases hb];exact ⟨τ',rfl,hI',hk⟩
  | _=>exact ⟨τ',rfl,hI',hk⟩
theorem irunN_ok (hm:P.follows .mixedOrders=true):∀ (k:Nat),InlOk P (irunN tab k)
 | 0=>fun E ids τ R K r S G acts hI h=>by cases h
 | k+1=>fun E ids τ R K r S G acts hI h=>irunX_ok hm (irunN_ok hm k) S E.code hI h
theorem regT_ok (hm:P.follows .mixedOrders=true) {J:(Nat→TV)→Prop} {ops:List (AOp×Option Ty)} {kn:List (Nat×Bool)} {τ:TSt} {K:TSt→Option R} (hs:Stable (wrOps ops) J) (hJ:J (lookT τ.r)) (hI:Inv P τ) (hkn:KnOk kn τ.r) (h:regT tab ops kn τ K=some r):regK P (opsOf ops) (img n τ) fun σ'=>∃ τ',σ'=img n τ'∧Inv P τ'∧J (lookT τ'.r)∧K τ'=some r:=by
 refine regK_mono (fun σ' hq => ?_) (regX_ok (irunN_ok (tab:=tab) hm 5) (n:=n) [] hs hJ hI hkn h);obtain ⟨τ',k1,⟨k2,_⟩,k4,k5⟩:=hq;exact ⟨τ',k1,k2,k4,k5⟩
end
inductive CP where
 | i (k:IntKind)
 | b
 | s
 | sl (o:Bool) (t:Ty)
 | nl (o:Bool) (k:Nat)
 | np
 | ref (id:Nat)
 | vp (id j:Nat)
 | hp (id j:Nat)
 | un
inductive VP where
 | one (c:CP)
 | pk (t:Ty)
inductive BP where
 | var (w:Bool) (l:List CP)
 | pk (w:Bool) (t:Ty)
 | sl (t:Ty)
 | hole (t:Ty) (l:List CP)
def isHole:List BP→Nat→Bool
 | .hole _ _::_,0=>true
 | _::r,i+1=>isHole r i
 | _,_=>false
structure TPl where
 rs:List (Nat×VP)
 bs:List BP
 fg:List BP:=[]
def CP.ty:CP→List Ty
 | .i k=>[.int k]
 | .b=>[.bool]
 | .s=>[.str]
 | .sl _ t=>[.sl t]
 | _=>[]
def tyCs:List CP→List Ty
 | []=>[]
 | c::r=>c.ty++tyCs r
def BP.ty:BP→List Ty
 | .var _ l=>tyCs l
 | .pk _ t=>[t]
 | .sl t=>[.sl t]
 | .hole t l=>.sl t::.sl t::tyCs l
def tyBs:List BP→List Ty
 | []=>[]
 | b::r=>b.ty++tyBs r
def VP.ty:VP→List Ty
 | .one c=>c.ty
 | .pk t=>[t]
def tyRs:List (Nat×VP)→List Ty
 | []=>[]
 | (_,v)::r=>v.ty++tyRs r
def TPl.ty (T:TPl):List Ty:=tyBs T.bs++tyRs T.rs
def exC:CP→TC→Option (List SD)
 | .i k,.c (.i k' n)=>match kindB k k' with
  | true=>some [⟨.int k,n⟩]
  | false=>none
 | .b,.c (.b x)=>some [⟨.bool,x⟩]
 | .s,.c (.s x)=>some [⟨.str,x⟩]
 | .sl o t,.c x=>match ofC1 o t x with
  | some l=>some [⟨.sl t,l⟩]
  | none=>none
 | .nl o k,.c (.nl o' k')=>match o==o',Nat.beq k k' with
  | true,true=>some []
  | _,_=>none
 | .np,.c .np=>some []
 | _,_=>none
def exK (h:List TB):CP→TC→Option (List SD)
 | .ref id,.ref id' v n=>match vlen (tbAt h id') with
  | some (v',_)=>match Nat.beq id id',Nat.beq v v' with
   | true,true=>some []
   | _,_=>none
  | none=>none
 | .un,.un=>some []
 | p,c=>exC p c
def exKs (h:List TB):List CP→List TC→Option (List SD)
 | [],[]=>some []
 | p::ps,c::cs=>match exK h p c,exKs h ps cs with
  | some l,some m=>some (l++m)
  | _,_=>none
 | _,_=>none
def exB (h:List TB):BP→TB→Option (List SD)
 | .var w l,.var w' cs=>match w==w' with
  | true=>exKs h l cs
  | false=>none
 | .hole t l,.hole u _ _ _ pre row post _=>match asL u t pre,asL u t post,exKs h l row with
  | some a,some b,some m=>some (⟨.sl t,a⟩::⟨.sl t,b⟩::m)
  | _,_,_=>none
 | .pk w t,.var w' cs=>match w==w',toSC cs with
  | true,some xs=>match ofC true t xs with
   | some v=>some [⟨t,v⟩]
   | none=>none
  | _,_=>none
 | .sl t,tb=>match whole t tb with
  | some (_,l)=>some [⟨.sl t,l⟩]
  | none=>none
 | _,_=>none
def exBs (h:List TB):List BP→List TB→Option (List SD)
 | [],[]=>some []
 | p::ps,b::bs=>match exB h p b,exBs h ps bs with
  | some l,some m=>some (l++m)
  | _,_=>none
 | _,_=>none
def exV (qs:List BP) (h:List TB):VP→TV→Option (List SD)
 | .one p,.r (.one c)=>match p,c with
  | .ref id,.ref id' v n=>match vlen (tbAt h id) with
   | some (v',_)=>match Nat.beq id id',Nat.beq v v' with
    | true,true=>some []
    | _,_=>none
   | none=>none
  | .vp id j,.vp id' j'=>match Nat.beq id id',Nat.beq j j' with
   | true,true=>some []
   | _,_=>none
  | .hp id j,.hp id' v n e j'=>match hinf (tbAt h id),isHole qs id with
   | some (v',_),true=>match Nat.beq id id',Nat.beq j j',Nat.beq v v' with
    | true,true,true=>some []
    | _,_,_=>none
   | _,_=>none
  | p,c=>exC p c
 | .pk t,.r (.agg cs)=>match t.agg,toSC cs with
  | true,some xs=>match ofC true t xs with
   | some v=>some [⟨t,v⟩]
   | none=>none
  | _,_=>none
 | _,_=>none
def exRs (qs:List BP) (h:List TB) (r:List (Nat×TV)):List (Nat×VP)→Option (List SD)
 | []=>some []
 | (t,p)::ps=>match exV qs h p (lookT r t),exRs qs h r ps with
  | some l,some m=>some (l++m)
  | _,_=>none
def exT (T:TPl) (τ:TSt):Option (List SD) :=
 match exBs τ.h T.bs τ.h,exRs T.bs τ.h τ.r T.rs with
 | some l,some m=>some (l++m)
 | _,_=>none
def fiC:CP→List SD→Option (TC×List SD)
 | .i k,⟨.int k',n⟩::r=>match kindB k k' with
  | true=>some (.c (.i k n),r)
  | false=>none
 | .b,⟨.bool,x⟩::r=>some (.c (.b x),r)
 | .s,⟨.str,x⟩::r=>some (.c (.s x),r)
 | .sl o t,⟨.sl u,l⟩::r=>match asL u t l with
  | some m=>some (.c (.sl o t m),r)
  | none=>none
 | .nl o k,r=>some (.c (.nl o k),r)
 | .np,r=>some (.c .np,r)
 | _,_=>none
def fiK:CP→List SD→Option (TC×List SD)
 | .ref id,r=>some (.ref id 0 0,r)
 | .un,r=>some (.un,r)
 | p,r=>fiC p r
def fiKs:List CP→List SD→Option (List TC×List SD)
 | [],r=>some ([],r)
 | p::ps,r=>match fiK p r with
  | some (c,r)=>match fiKs ps r with
   | some (cs,r)=>some (c::cs,r)
   | none=>none
  | none=>none
def fiB:BP→List SD→Option (TB×List SD)
 | .var w l,r=>match fiKs l r with
  | some (cs,r)=>some (.var w cs,r)
  | none=>none
 | .hole t l,⟨.sl u,a⟩::⟨.sl u',b⟩::r=>match asL u t a,asL u' t b,fiKs l r with
  | some a,some b,some (cs,r)=>some (.hole t 0 0 a.length a cs b none,r)
  | _,_,_=>none
 | .pk w t,⟨u,v⟩::r=>match asD u t v with
  | some x=>some (.var w ((cells t x).map .c),r)
  | none=>none
 | .sl t,⟨.sl u,l⟩::r=>match asL u t l with
  | some m=>some (.sl t 0 m,r)
  | none=>none
 | _,_=>none
def fiBs:List BP→List SD→Option (List TB×List SD)
 | [],r=>some ([],r)
 | p::ps,r=>match fiB p r with
  | some (b,r)=>match fiBs ps r with
   | some (bs,r)=>some (b::bs,r)
   | none=>none
  | none=>none
def fiV (h:List TB):VP→List SD→Option (TV×List SD)
 | .one p,r=>match p with
  | .ref id=>match vlen (tbAt h id) with
   | some (_,n)=>some (.r (.one (.ref id 0 n)),r)
   | none=>none
  | .vp id j=>some (.r (.one (.vp id j)),r)
  | .hp id j=>match hinf (tbAt h id) with
   | some (_,m,q)=>some (.r (.one (.hp id 0 m q j)),r)
   | none=>none
  | p=>match fiC p r with
   | some (c,r)=>some (.r (.one c),r)
   | none=>none
 | .pk t,⟨u,v⟩::r=>match asD u t v with
  | some x=>some (.r (.agg ((cells t x).map .c)),r)
  | none=>none
 | _,_=>none
def fiRs (h:List TB):List (Nat×VP)→List SD→Option (List (Nat×TV)×List SD)
 | [],r=>some ([],r)
 | (t,p)::ps,r=>match fiV h p r with
  | some (v,r)=>match fiRs h ps r with
   | some (vs,r)=>some ((t,v)::vs,r)
   | none=>none
  | none=>none
def patC (h:List TB):TC→TC
 | .ref id v n=>match vlen (tbAt h id) with
  | some (_,m)=>.ref id v m
  | none=>.ref id v n
 | c=>c
def patB (h:List TB):TB→TB
 | .var w cs=>.var w (cs.map (patC h))
 | .hole t v hv y pre row post memo=>.hole t v hv y pre (row.map (patC h)) post memo
 | b=>b
def patBs (h:List TB):List TB→List TB
 | []=>[]
 | b::r=>patB h b::patBs h r
def fiT (T:TPl) (l:List SD):Option TSt :=
 match fiBs T.bs l with
 | some (bs,r)=>match fiRs (patBs bs bs) T.rs r with
  | some (vs,_)=>some ⟨vs,patBs bs bs,1⟩
  | none=>none
 | none=>none
def nfC (h:List TB):TC→Bool
 | .ref i _ _=>(match tbAt h i with|.fresh=>false|_=>true)
 | .part i _ _ _ _=>(match tbAt h i with|.fresh=>false|_=>true)
 | .vp i _=>(match tbAt h i with|.fresh=>false|_=>true)
 | .hp i _ _ _ _=>(match tbAt h i with|.fresh=>false|_=>true)
 | .fq _ _=>false
 | _=>true
def nfCs (h:List TB):List TC→Bool
 | []=>true
 | c::r=>nfC h c&&nfCs h r
def nfR (h:List TB):List (Nat×TV)→Bool
 | []=>true
 | (_,v)::r=>nfCs h v.cs&&nfR h r
def nfB (h:List TB):List TB→Bool
 | []=>true
 | b::r=>nfCs h (rowOf b)&&nfB h r
def fgC:TC→TC
 | .c (.sl true t l)=>.c (.sl true t l)
 | .c (.nl true k)=>.c (.nl true k)
 | _=>.un
def fgL:List CP→List TC→List TC
 | .un::ps,c::cs=>fgC c::fgL ps cs
 | _::ps,c::cs=>c::fgL ps cs
 | _,cs=>cs
def hasUn:List CP→Bool
 | []=>false
 | .un::_=>true
 | _::r=>hasUn r
def fgB:BP→TB→TB
 | .var _ l,.var w cs=>.var w (fgL l cs)
 | .hole _ l,.hole t v hv n pre row post memo=>match hasUn l with
  | true=>.hole t v hv n pre (fgL l row) post none
  | false=>.hole t v hv n pre row post memo
 | _,b=>b
def fgBs:List BP→List TB→List TB
 | p::ps,b::bs=>fgB p b::fgBs ps bs
 | _,bs=>bs
def anyUn:List BP→Bool
 | []=>false
 | .var _ l::r=>hasUn l||anyUn r
 | .hole _ l::r=>hasUn l||anyUn r
 | _::r=>anyUn r
def fgt (ps:List BP) (τ:TSt):TSt:=match anyUn ps with
 | false=>τ
 | true=>match nfR τ.h τ.r&&nfB τ.h τ.h with
  | true=>⟨τ.r,fgBs ps τ.h,τ.g⟩
  | false=>τ
section
variable {P:Program} {G:Fr} {τ:TSt} {n:Nat}
theorem nfCs_mem {h:List TB}:∀ {l:List TC},nfCs h l=true→∀ c∈l,nfC h c=true
 | [],_,c,hc=>by cases hc
 | x::r,k,c,hc=>by
  simp only [nfCs,bae] at k;rcases List.mem_cons.1 hc with rfl|hc
  ·exact k.1
  ·exact nfCs_mem k.2 c hc
theorem nfR_mem {h:List TB}:∀ {l:List (Nat×TV)},nfR h l=true→∀ e∈l,∀ c∈e.2.cs,nfC h c=true
 | [],_,e,he=>by cases he
 | (t,v)::r,k,e,he=>by
  simp only [nfR,bae] at k;rcases List.mem_cons.1 he with rfl|he
  ·exact nfCs_mem k.1
  ·exact nfR_mem k.2 e he
theorem nfB_at {h:List TB}:∀ {l:List TB},nfB h l=true→∀ i,∀ c∈rowOf (tbAt l i),nfC h c=true
 | [],_,i,c,hc=>by simp [tbAt,rowOf] at hc
 | b::r,k,0,c,hc=>by
  simp only [nfB,bae] at k;exact nfCs_mem k.1 c hc
 | b::r,k,i+1,c,hc=>by
  simp only [nfB,bae] at k;exact nfB_at k.2 i c hc
theorem fgC_pv (c:TC):fgC c=c∨(fgC c=.un∧∀ k l,c.pv≠.vs true k l):=by
 cases c with
 | c x =>
  cases x with
  | sl o t l =>
   cases o with
   | true=>exact .inl rfl
   | false=>exact .inr ⟨rfl,by simp [TC.pv,SC.pv]⟩
  | nl o k =>
   cases o with
   | true=>exact .inl rfl
   | false=>exact .inr ⟨rfl,by simp [TC.pv,SC.pv]⟩
  | _=>exact .inr ⟨rfl,by simp [TC.pv,SC.pv]⟩
 | _=>exact .inr ⟨rfl,by simp [TC.pv]⟩
theorem fgL_len:∀ (ps:List CP) (cs:List TC),(fgL ps cs).length=cs.length
 | [],cs=>by cases cs<;>rfl
 | p::ps,[]=>by cases p<;>rfl
 | p::ps,c::cs=>by cases p<;>simp [fgL,fgL_len ps cs]
theorem fgL_mem:∀ {ps:List CP} {cs:List TC} {c:TC},c∈fgL ps cs→c∈cs∨c=.un
 | [],cs,c,h=>by cases cs<;>exact .inl h
 | p::ps,[],c,h=>by cases p<;>exact .inl h
 | p::ps,d::cs,c,h=>by
  have key:∀ x,(x=d∨x=.un)→c∈x::fgL ps cs→c∈d::cs∨c=.un:=by
   intro x hx h;rcases List.mem_cons.1 h with rfl|h
   ·rcases hx with rfl|rfl
    ·exact .inl (by simp)
    ·exact .inr rfl
   ·exact (fgL_mem h).imp (fun k=>by simp [k]) id
  cases p with
  | un=>exact key (fgC d) ((fgC_pv d).imp id fun k=>k.1) h
  | _=>exact key d (.inl rfl) h
theorem fgBs_at:∀ (ps:List BP) (bs:List TB) (i:Nat),∃ p,tbAt (fgBs ps bs) i=tbAt bs i∨tbAt (fgBs ps bs) i=fgB p (tbAt bs i)
 | [],bs,i=>⟨.sl .bool,.inl (by cases bs<;>rfl)⟩
 | p::ps,[],i=>⟨.sl .bool,.inl rfl⟩
 | p::ps,b::bs,0=>⟨p,.inr rfl⟩
 | p::ps,b::bs,i+1=>fgBs_at ps bs i
theorem fgB_kind (p:BP) (b:TB):fgB p b=b∨(∃ l w cs,b=.var w cs∧fgB p b=.var w (fgL l cs))∨∃ l t v hv n pre row post memo,b=.hole t v hv n pre row post memo∧fgB p b=.hole t v hv n pre (fgL l row) post none:=by
 cases p<;>cases b<;>first|exact .inl rfl|skip
 ·exact .inr (.inl ⟨_,_,_,rfl,rfl⟩)
 ·rename_i t l u v hv n pre row post memo;simp only [fgB];split
  ·exact .inr (.inr ⟨l,_,_,_,_,_,_,_,_,rfl,rfl⟩)
  ·exact .inl rfl
theorem fgt_tidy (hI:Inv P τ) (ps:List BP):Tidy P n τ (fgt ps τ):=by
 unfold fgt;split
 ·exact Tidy.refl hI
 ·split
  case h_2=>exact Tidy.refl hI
  rename_i hnf;rw [bae] at hnf;obtain ⟨n1,n2⟩:=hnf;have hat:∀ i,tbAt (fgBs ps τ.h) i=tbAt τ.h i∨(∃ l w cs,tbAt τ.h i=.var w cs∧tbAt (fgBs ps τ.h) i=.var w (fgL l cs))∨∃ l t v hv n pre row post memo,tbAt τ.h i=.hole t v hv n pre row post memo∧tbAt (fgBs ps τ.h) i=.hole t v hv n pre (fgL l row) post none:=by
   intro i;obtain ⟨p,h|h⟩:=fgBs_at ps τ.h i
   ·exact .inl h
   ·rw [h];exact fgB_kind p _
  have hvl:∀ i,vlen (tbAt (fgBs ps τ.h) i)=vlen (tbAt τ.h i):=by
   intro i;rcases hat i with e|⟨l,w,cs,e1,e2⟩|⟨l,t,v,hv,m,pre,row,post,memo,e1,e2⟩
   ·rw [e]
   ·rw [e1,e2];rfl
   ·rw [e1,e2];rfl
  have hhi:∀ i,hinf (tbAt (fgBs ps τ.h) i)=hinf (tbAt τ.h i):=by
   intro i;rcases hat i with e|⟨l,w,cs,e1,e2⟩|⟨l,t,v,hv,m,pre,row,post,memo,e1,e2⟩
   ·rw [e]
   ·rw [e1,e2];rfl
   ·rw [e1,e2];rfl
  have hle:HLe τ.h τ.g (fgBs ps τ.h) τ.g:=⟨Nat.le_refl _,fun id v m _ e=>by rw [hvl] at e;exact e,fun id v m q _ e=>by rw [hhi] at e;exact e⟩
  have hfr:∀ i,(tbAt τ.h i).slot≠.fresh→(img n ⟨τ.r,fgBs ps τ.h,τ.g⟩).slot i≠.fresh:=by
   intro i hi;rw [img_slot];show (tbAt (fgBs ps τ.h) i).slot≠.fresh;rcases hat i with e|⟨l,w,cs,e1,e2⟩|⟨l,t,v,hv,m,pre,row,post,memo,e1,e2⟩
   ·rw [e];exact hi
   ·rw [e2];intro e;cases e
   ·rw [e2];intro e;cases e
  have hfr2:∀ i,(match tbAt τ.h i with|.fresh=>false|_=>true)=true→(img n ⟨τ.r,fgBs ps τ.h,τ.g⟩).slot i≠.fresh:=by
   intro i hi;refine hfr i ?_
   revert hi
   cases tbAt τ.h i<;>intro k<;>first|(intro e;cases e;done)|cases k
  have hC:∀ c,cok P τ.h τ.g c→nfC τ.h c=true→Rn id (img n ⟨τ.r,fgBs ps τ.h,τ.g⟩) c.pv c.pv:=by
   intro c hc hn;cases c with
   | c x=>exact .nr x.nr
   | rp l j=>exact .nr (.rp nr_map)
   | fn f l=>exact .nr (.fn fun q hq=>by obtain ⟨z,_,rfl⟩:=List.mem_map.1 hq;exact capPV_nr z)
   | fv f m a r p=>exact .nr (.fn fun q hq=>(hc.1 q hq).1)
   | un=>exact .un (by simp [TC.pv])
   | fq f l=>cases hn
   | rq l=>exact .nr (.rp fun q hq=>by
     have:q=.rp (l.map SC.pv) 0:=by simpa using hq
     subst this;exact .rp nr_map)
   | ref i v m=>exact Rn.ref (ρ:=id) (hfr2 i hn)
   | part i v lo len m=>exact Rn.ref (ρ:=id) (hfr2 i hn)
   | vp i j=>exact Rn.ptr (ρ:=id) (hfr2 i hn)
   | hp i v m e j=>exact Rn.ptr (ρ:=id) (hfr2 i hn)
  have hL:∀ (l:List TC),(∀ c∈l,cok P τ.h τ.g c)→(∀ c∈l,nfC τ.h c=true)→All2 (Rn id (img n ⟨τ.r,fgBs ps τ.h,τ.g⟩)) (l.map TC.pv) (l.map TC.pv):=by
   intro l;induction l with
   | nil=>intro _ _;exact .nil
   | cons c l ih=>intro h1 h2;exact .cons (hC c (h1 c (by simp)) (h2 c (by simp))) (ih (fun c hc=>h1 c (by simp [hc])) fun c hc=>h2 c (by simp [hc]))
  have hF:∀ (ps':List CP) (l:List TC),(∀ c∈l,cok P τ.h τ.g c)→(∀ c∈l,nfC τ.h c=true)→All2 (Rn id (img n ⟨τ.r,fgBs ps τ.h,τ.g⟩)) (l.map TC.pv) ((fgL ps' l).map TC.pv):=by
   intro ps';induction ps' with
   | nil=>intro l h1 h2;cases l<;>exact hL _ h1 h2
   | cons p ps' ih =>
    intro l h1 h2;cases l with
    | nil=>cases p<;>exact .nil
    | cons c l =>
     have ht:=ih l (fun c hc=>h1 c (by simp [hc])) fun c hc=>h2 c (by simp [hc])
     have h0:=hC c (h1 c (by simp)) (h2 c (by simp));cases p with
     | un =>
      rcases fgC_pv c with e|⟨e,hne⟩
      ·simp only [fgL,e,List.map_cons];exact .cons h0 ht
      ·simp only [fgL,e,List.map_cons];exact .cons (.un hne) ht
     | _=>exact .cons h0 ht
  have hE:∀ (t:Ty) (l:List (Den t)),All2 (All2 (Rn id (img n ⟨τ.r,fgBs ps τ.h,τ.g⟩))) (l.map (enc t)) (l.map (enc t)):=fun t l=>All2.encs l
  refine ⟨fun G=>Wk.ren id ?_,?_,NormR.refl _⟩
  ·refine ⟨rfl,rfl,rfl,fun t => ?_,fun i B' hB => ?_,fun i hi => ?_,fun i j _ _ _ _ e=>e,fun i B hB hk=>⟨rfl,?_⟩⟩
   ·rw [img_reg,img_reg];show RnRV id _ (lookT τ.r t).rv (lookT τ.r t).rv;have hcs:(∀ c∈(lookT τ.r t).cs,cok P τ.h τ.g c)∧∀ c∈(lookT τ.r t).cs,nfC τ.h c=true:=by
     rcases lookT_mem τ.r t with k|⟨e,he,k1,k2⟩
     ·rw [k];simp [TV.cs]
     ·rw [k2];exact ⟨hI.regs e he,nfR_mem n1 e he⟩
    have hR:∀ x:TR,(∀ c∈x.cs,cok P τ.h τ.g c)→(∀ c∈x.cs,nfC τ.h c=true)→RnR1 id (img n ⟨τ.r,fgBs ps τ.h,τ.g⟩) x.r1 x.r1:=by
     intro x h1 h2;cases x with
     | one c=>exact hC c (h1 c (by simp [TR.cs])) (h2 c (by simp [TR.cs]))
     | agg l=>exact hL l h1 h2
    generalize lookT τ.r t=v at hcs;cases v with
    | r x=>exact hR x hcs.1 hcs.2
    | un=>trivial
    | tup l =>
     obtain ⟨h1,h2⟩:=hcs;show All2 (RnR1 id _) (l.map TR.r1) (l.map TR.r1);simp only [TV.cs] at h1 h2;induction l with
     | nil=>exact .nil
     | cons x l ih =>
      refine .cons (hR x (fun c hc=>h1 c (by simp [hc])) fun c hc=>h2 c (by simp [hc])) (ih (fun c hc=>h1 c ?_) fun c hc=>h2 c ?_)
      ·simp only [List.flatMap_cons,lma];exact .inr hc
      ·simp only [List.flatMap_cons,lma];exact .inr hc
   ·rw [img_slot] at hB;have hB:(tbAt (fgBs ps τ.h) i).slot=.live B':=hB;have hbk:=hI.blks i;have hnb:=nfB_at n2 i;show ∃ B,(img n τ).slot i=.live B∧_;rw [img_slot];rcases hat i with e|⟨l,w,cs,e1,e2⟩|⟨l,t,v,hv,m,pre,row,post,memo,e1,e2⟩
    ·rw [e] at hB;refine ⟨B',hB,rfl,rfl,?_⟩;cases hb:tbAt τ.h i with
     | fresh=>rw [hb] at hB;cases hB
     | dead=>rw [hb] at hB;cases hB
     | var w cs =>
      rw [hb] at hB hbk hnb;injection hB with hB;subst hB;exact .cons (hL cs hbk hnb) .nil
     | nb v k=>rw [hb] at hB;injection hB with hB;subst hB;exact .nil
     | sl t v l=>rw [hb] at hB;injection hB with hB;subst hB;exact hE t l
     | hole t v hv m pre row post memo =>
      rw [hb] at hB hbk hnb;injection hB with hB;subst hB;exact (hE t pre).app (.cons (hL row hbk.2.2.1 hnb) (hE t post))
    ·rw [e1] at hbk hnb ⊢;rw [e2] at hB;injection hB with hB;subst hB;exact ⟨_,rfl,rfl,fgL_len _ _,.cons (hF l cs hbk hnb) .nil⟩
    ·rw [e1] at hbk hnb ⊢;rw [e2] at hB;injection hB with hB;subst hB;exact ⟨_,rfl,rfl,rfl,(hE t pre).app (.cons (hF l row hbk.2.2.1 hnb) (hE t post))⟩
   ·rw [img_slot] at hi;show (img n τ).slot i≠.fresh;rw [img_slot];have hi:(tbAt (fgBs ps τ.h) i).slot≠.fresh:=hi;rcases hat i with e|⟨l,w,cs,e1,e2⟩|⟨l,t,v,hv,m,pre,row,post,memo,e1,e2⟩
    ·rw [e] at hi;exact hi
    ·rw [e1];intro e;cases e
    ·rw [e1];intro e;cases e
   ·rw [img_slot] at hB;rw [img_slot];show ∃ B',(tbAt (fgBs ps τ.h) i).slot=.live B';rcases hat i with e|⟨l,w,cs,e1,e2⟩|⟨l,t,v,hv,m,pre,row,post,memo,e1,e2⟩
    ·rw [e];exact ⟨B,hB⟩
    ·rw [e2];exact ⟨_,rfl⟩
    ·rw [e2];exact ⟨_,rfl⟩
  ·refine ⟨fun e he c hc=>hle.cok (hI.regs e he c hc),fun i => ?_⟩;have hbk:=hle.bok (hI.blks i);show bok P (fgBs ps τ.h) τ.g (tbAt (fgBs ps τ.h) i);rcases hat i with e|⟨l,w,cs,e1,e2⟩|⟨l,t,v,hv,m,pre,row,post,memo,e1,e2⟩
   ·rw [e];exact hbk
   ·rw [e1] at hbk;rw [e2];intro c hc;rcases fgL_mem hc with hc|rfl
    ·exact hbk c hc
    ·trivial
   ·rw [e1] at hbk;rw [e2];refine ⟨hbk.1,hbk.2.1,fun c hc => ?_,by rw [fgL_len];exact hbk.2.2.2.1,hbk.2.2.2.2.1,fun l hl=>by cases hl⟩;rcases fgL_mem hc with hc|rfl
    ·exact hbk.2.2.1 c hc
    ·trivial
end
section
variable {P:Program} {G:Fr} {τ:TSt} {n:Nat} {r:List SD}
theorem asL_self (t:Ty) (l:List (Den t)):asL t t l=some l:=by
 have key:∀ t:Ty,∃ h,Ty.eq t t=some ⟨h⟩:=by
  intro t;induction t with
  | int k =>
   have hk:kindB k k=true:=decide_eq_true rfl;refine ⟨rfl,?_⟩;simp only [Ty.eq];split
   ·rfl
   ·rename_i h;rw [hk] at h;cases h
  | bool=>exact ⟨rfl,rfl⟩
  | str=>exact ⟨rfl,rfl⟩
  | sl t ih=>obtain ⟨h,e⟩:=ih;exact ⟨rfl,by simp only [Ty.eq,e]⟩
  | vw t ih=>obtain ⟨h,e⟩:=ih;exact ⟨rfl,by simp only [Ty.eq,e]⟩
  | pr a b ih1 ih2=>obtain ⟨h,e⟩:=ih1;obtain ⟨h',e'⟩:=ih2;exact ⟨rfl,by simp only [Ty.eq,e,e']⟩
 obtain ⟨h,e⟩:=key t;simp only [asL,e]
theorem asD_self (t:Ty) (x:Den t):asD t t x=some x:=by
 have key:∀ t:Ty,∃ h,Ty.eq t t=some ⟨h⟩:=by
  intro t;induction t with
  | int k =>
   have hk:kindB k k=true:=decide_eq_true rfl;refine ⟨rfl,?_⟩;simp only [Ty.eq];split
   ·rfl
   ·rename_i h;rw [hk] at h;cases h
  | bool=>exact ⟨rfl,rfl⟩
  | str=>exact ⟨rfl,rfl⟩
  | sl t ih=>obtain ⟨h,e⟩:=ih;exact ⟨rfl,by simp only [Ty.eq,e]⟩
  | vw t ih=>obtain ⟨h,e⟩:=ih;exact ⟨rfl,by simp only [Ty.eq,e]⟩
  | pr a b ih1 ih2=>obtain ⟨h,e⟩:=ih1;obtain ⟨h',e'⟩:=ih2;exact ⟨rfl,by simp only [Ty.eq,e,e']⟩
 obtain ⟨h,e⟩:=key t;simp only [asD,e]
theorem kindB_self (k:IntKind):kindB k k=true:=decide_eq_true rfl
theorem exC_ok {p:CP} {c:TC} {l:List SD} (h:exC p c=some l):l.map (·.1)=p.ty∧∃ x:SC,(∀ r,fiC p (l++r)=some (.c x,r))∧x.pv=c.pv:=by
 unfold exC at h;split at h
 ·rename_i k k' n;split at h
  ·rename_i hk;injection h with h;subst h;have:=kindB_ok hk;subst this;exact ⟨rfl,.i k n,fun r=>by simp [fiC,kindB_self],rfl⟩
  ·cases h
 ·injection h with h;subst h;exact ⟨rfl,_,fun r=>rfl,rfl⟩
 ·injection h with h;subst h;exact ⟨rfl,_,fun r=>rfl,rfl⟩
 ·rename_i o t x;split at h
  ·rename_i m hm;injection h with h;subst h;exact ⟨rfl,.sl o t m,fun r=>by simp [fiC,asL_self],(ofC1_ok hm).symm⟩
  ·cases h
 ·split at h
  ·rename_i ho hk;injection h with h;subst h;rw [beq_iff_eq] at ho;subst ho;have:=nbe hk;subst this;exact ⟨rfl,_,fun r=>rfl,rfl⟩
  ·cases h
 ·injection h with h;subst h;exact ⟨rfl,_,fun r=>rfl,rfl⟩
 ·cases h
def Hvl (h h':List TB):Prop:=∀ i,vlen (tbAt h' i)=(vlen (tbAt h i)).map (fun z=>(0,z.2))
theorem exK_ok {h:List TB} {g:Nat} {p:CP} {c:TC} {l:List SD} (hc:cok P h g c) (he:exK h p c=some l):l.map (·.1)=p.ty∧∃ c',(∀ r,fiK p (l++r)=some (c',r))∧∀ h' h'',Hvl h h'→Hvl h h''→(patC h' c').pv=c.pv∧cok P h'' 1 (patC h' c'):=by
 unfold exK at he;split at he
 ·rename_i id id' v n;split at he
  ·rename_i v' k hv;split at he
   ·rename_i e1 e2;have:=nbe e1;subst this;have:=nbe e2;subst this;injection he with he;subst he;have hn:n=k:=hc.2 _ hv;subst hn;refine ⟨rfl,.ref id 0 0,fun r=>rfl,fun h' h'' k1 k2 => ?_⟩;have e1:vlen (tbAt h' id)=some (0,n):=by rw [k1,hv];rfl
    have e2:vlen (tbAt h'' id)=some (0,n):=by rw [k2,hv];rfl
    have e3:patC h' (.ref id 0 0)=.ref id 0 n:=by simp [patC,e1]
    rw [e3];exact ⟨rfl,Nat.one_pos,fun m e=>by rw [e2] at e;simp at e;exact e⟩
   ·cases he
  ·cases he
 ·injection he with he;subst he;exact ⟨rfl,.un,fun r=>rfl,fun h' h'' _ _=>⟨rfl,trivial⟩⟩
 ·rename_i hne hne2;obtain ⟨e1,x,f1,g1⟩:=exC_ok he;refine ⟨e1,.c x,fun r => ?_,fun h' h'' _ _=>⟨g1,trivial⟩⟩;have:=f1 r;cases p with
  | ref id=>cases c<;>simp [exC] at he
  | un=>cases c<;>simp [exC] at he
  | _=>simp only [fiK,this]
theorem exKs_ok {h:List TB} {g:Nat}:∀ {ps:List CP} {cs:List TC} {l:List SD},(∀ c∈cs,cok P h g c)→exKs h ps cs=some l→l.map (·.1)=tyCs ps∧∃ cs',(∀ r,fiKs ps (l++r)=some (cs',r))∧cs'.length=cs.length∧∀ h' h'',Hvl h h'→Hvl h h''→(cs'.map (patC h')).map TC.pv=cs.map TC.pv∧∀ c∈cs'.map (patC h'),cok P h'' 1 c
 | [],[],l,hc,he=>by injection he with he;subst he;exact ⟨rfl,[],fun r=>rfl,rfl,fun _ _ _ _=>⟨rfl,by simp⟩⟩
 | p::ps,c::cs,l,hc,he=>by
  simp only [exKs] at he;split at he
  ·rename_i l1 l2 h1 h2;injection he with he;subst he;obtain ⟨e1,x,f1,g1⟩:=exK_ok (hc c (by simp)) h1;obtain ⟨e2,xs,f2,n2,g2⟩:=exKs_ok (fun x hx=>hc x (by simp [hx])) h2;refine ⟨by simp [tyCs,e1,e2],x::xs,fun r => ?_,by simp [n2],fun h' h'' k1 k2 => ?_⟩
   ·rw [List.append_assoc];simp only [fiKs,f1,f2]
   ·obtain ⟨a1,a2⟩:=g1 h' h'' k1 k2;obtain ⟨b1,b2⟩:=g2 h' h'' k1 k2;refine ⟨by simp only [List.map_cons,a1,b1],fun z hz => ?_⟩;rw [List.map_cons] at hz;rcases List.mem_cons.1 hz with rfl|hz
    ·exact a2
    ·exact b2 z hz
  ·cases he
 | [],_::_,l,hc,he=>by cases he
 | _::_,[],l,hc,he=>by cases he
theorem asL_same {u t:Ty} {l:List (Den u)} {m:List (Den t)} (h:asL u t l=some m):u=t∧HEq l m:=by
 unfold asL at h;split at h
 ·rename_i e _;subst e;injection h with h;subst h;exact ⟨rfl,HEq.rfl⟩
 ·cases h
theorem exB_ok {p:BP} {tb:TB} {l:List SD} {h:List TB} {g:Nat} (hb:bok P h g tb) (he:exB h p tb=some l):l.map (·.1)=p.ty∧∃ tb',(∀ r,fiB p (l++r)=some (tb',r))∧vlen tb'=(vlen tb).map (fun z=>(0,z.2))∧(∀ t l',p=.hole t l'→hinf tb'=(hinf tb).map (fun z=>(0,z.2)))∧∀ h' h'',Hvl h h'→Hvl h h''→(patB h' tb').slot=tb.slot∧bok P h'' 1 (patB h' tb'):=by
 unfold exB at he;split at he
 ·rename_i w ps w' cs;split at he
  ·rename_i hw;rw [beq_iff_eq] at hw;subst hw;obtain ⟨e1,xs,f1,n1,g1⟩:=exKs_ok hb he;refine ⟨e1,.var w xs,fun r=>by simp only [fiB,f1],rfl,fun _ _ e=>by (cases e),fun h' h'' k1 k2 => ?_⟩;obtain ⟨a1,a2⟩:=g1 h' h'' k1 k2;exact ⟨by simp only [patB,TB.slot,a1,List.length_map,n1],a2⟩
  ·cases he
 ·rename_i t ps u v hv y pre row post memo;split at he
  ·rename_i a b m ha hb' hm;injection he with he;subst he;obtain ⟨rfl,ha'⟩:=asL_same ha;obtain ⟨_,hb''⟩:=asL_same hb';have ha':=eq_of_heq ha';have hb'':=eq_of_heq hb'';subst ha' hb'';obtain ⟨_,_,hc,hlen,_,_⟩:=hb;obtain ⟨e1,xs,f1,n1,g1⟩:=exKs_ok hc hm;refine ⟨by simp [BP.ty,e1],.hole u 0 0 pre.length pre xs post none,fun r=>by simp [fiB,asL_self,f1],?_,fun _ _ _=>rfl,fun h' h'' k1 k2 => ?_⟩
   ·rfl
   ·obtain ⟨a1,a2⟩:=g1 h' h'' k1 k2;refine ⟨by simp only [patB,TB.slot,a1],Nat.one_pos,Nat.one_pos,a2,by rw [List.length_map,n1,hlen],⟨by omega,by simp⟩,fun l hl=>by cases hl⟩
  ·cases he
 ·rename_i w t w' cs;split at he
  ·rename_i xs hw hxs;rw [beq_iff_eq] at hw;subst hw;split at he
   ·rename_i v hv;injection he with he;subst he;have e:=toV_ok hxs hv;have hp:∀ h',((cells t v).map TC.c).map (patC h')=(cells t v).map TC.c:=fun h'=>by simp [patC,Function.comp_def]
    refine ⟨rfl,.var w ((cells t v).map .c),fun r=>by simp [fiB,asD_self],rfl,fun _ _ e=>by (cases e),fun h' h'' _ _=>⟨?_,fun c hc => ?_⟩⟩
    ·have:=congrArg List.length e;simp [enc_len] at this;simp only [patB,hp,TB.slot,cells_c,e,List.length_map,cells_len,this]
    ·simp only [hp] at hc;obtain ⟨x,_,rfl⟩:=List.mem_map.1 hc;trivial
   ·cases he
  ·cases he
 ·rename_i t;split at he
  ·rename_i v l0 hw;injection he with he;subst he;obtain ⟨w1,w2⟩:=whole_ok hb hw;exact ⟨rfl,.sl t 0 l0,fun r=>by simp [fiB,asL_self],by rw [w2];rfl,fun _ _ e=>by (cases e),fun _ _ _ _=>⟨by rw [w1];rfl,Nat.one_pos⟩⟩
  ·cases he
 ·cases he
theorem exBs_ok {h:List TB} {g:Nat}:∀ {ps:List BP} {bs:List TB} {l:List SD},(∀ b∈bs,bok P h g b)→exBs h ps bs=some l→l.map (·.1)=tyBs ps∧∃ bs',(∀ r,fiBs ps (l++r)=some (bs',r))∧(∀ i,vlen (tbAt bs' i)=(vlen (tbAt bs i)).map (fun z=>(0,z.2)))∧(∀ i,isHole ps i=true→hinf (tbAt bs' i)=(hinf (tbAt bs i)).map (fun z=>(0,z.2)))∧∀ h' h'',Hvl h h'→Hvl h h''→(patBs h' bs').map TB.slot=bs.map TB.slot∧∀ b∈patBs h' bs',bok P h'' 1 b
 | [],[],l,hb,he=>by injection he with he;subst he;exact ⟨rfl,[],fun r=>rfl,fun i=>by cases i<;>rfl,fun i h=>by (cases i<;>cases h),fun _ _ _ _=>⟨rfl,by simp [patBs]⟩⟩
 | p::ps,b::bs,l,hb,he=>by
  simp only [exBs] at he;split at he
  ·rename_i l1 l2 h1 h2;injection he with he;subst he;obtain ⟨e1,b',f1,v1,w1,g1⟩:=exB_ok (hb b (by simp)) h1;obtain ⟨e2,bs',f2,v2,w2,g2⟩:=exBs_ok (fun x hx=>hb x (by simp [hx])) h2;refine ⟨by simp [tyBs,e1,e2],b'::bs',fun r => ?_,fun i => ?_,fun i hi => ?_,fun h' h'' k1 k2 => ?_⟩
   ·rw [List.append_assoc];simp only [fiBs,f1,f2]
   ·cases i with
    | zero=>exact v1
    | succ i=>exact v2 i
   ·cases i with
    | zero =>
     cases p with
     | hole t l'=>exact w1 t l' rfl
     | _=>cases hi
    | succ i=>exact w2 i (by cases p<;>exact hi)
   ·obtain ⟨a1,a2⟩:=g1 h' h'' k1 k2;obtain ⟨b1,b2⟩:=g2 h' h'' k1 k2;refine ⟨by simp only [patBs,List.map_cons,a1,b1],fun z hz => ?_⟩;rcases List.mem_cons.1 hz with rfl|hz
    ·exact a2
    ·exact b2 z hz
  ·cases he
 | [],_::_,l,hb,he=>by cases he
 | _::_,[],l,hb,he=>by cases he
theorem vlen_pat (h:List TB) (b:TB):vlen (patB h b)=vlen b:=by cases b<;>rfl
theorem hinf_pat (h:List TB) (b:TB):hinf (patB h b)=hinf b:=by cases b<;>rfl
theorem tbAt_pat (h:List TB):∀ (l:List TB) (i:Nat),tbAt (patBs h l) i=patB h (tbAt l i)
 | [],i=>rfl
 | b::r,0=>rfl
 | b::r,i+1=>tbAt_pat h r i
theorem exV_ok {qs:List BP} {h h':List TB} {g:Nat} (hvl:∀ i,vlen (tbAt h' i)=(vlen (tbAt h i)).map (fun z=>(0,z.2))) (hhi:∀ i,isHole qs i=true→hinf (tbAt h' i)=(hinf (tbAt h i)).map (fun z=>(0,z.2))) {p:VP} {v:TV} {l:List SD} (hc:∀ c∈v.cs,cok P h g c) (he:exV qs h p v=some l):l.map (·.1)=p.ty∧∃ v',(∀ r,fiV h' p (l++r)=some (v',r))∧v'.rv=v.rv∧∀ c∈v'.cs,cok P h' 1 c:=by
 unfold exV at he;split at he
 ·rename_i p c;split at he
  ·rename_i id id' v n;split at he
   ·rename_i v' k hv;split at he
    ·rename_i e1 e2;have:=nbe e1;subst this;have:=nbe e2;subst this;injection he with he;subst he;have hck:=hc (.ref id v n) (by simp [TV.cs,TR.cs]);have hn:n=k:=hck.2 _ hv;subst hn;have h1:vlen (tbAt h' id)=some (0,n):=by rw [hvl,hv];rfl
     refine ⟨rfl,.r (.one (.ref id 0 n)),fun r=>by simp [fiV,h1],rfl,fun c hc => ?_⟩;have:c=.ref id 0 n:=by simpa [TV.cs,TR.cs] using hc
     subst this;exact ⟨Nat.one_pos,fun m e=>by rw [h1] at e;simp at e;exact e⟩
    ·cases he
   ·cases he
  ·rename_i id j id' j';split at he
   ·rename_i e1 e2;have:=nbe e1;subst this;have:=nbe e2;subst this;injection he with he;subst he;refine ⟨rfl,_,fun r=>rfl,rfl,fun c hc => ?_⟩;have:c=.vp id j:=by simpa [TV.cs,TR.cs] using hc
    subst this;trivial
   ·cases he
  ·rename_i id j id' v n e j';split at he
   ·rename_i v' mq hv hh;split at he
    ·rename_i e1 e2 e3;have:=nbe e1;subst this;have:=nbe e2;subst this;have:=nbe e3;subst this;injection he with he;subst he;obtain ⟨m,q⟩:=mq;have hck:=hc (.hp id v n e j) (by simp [TV.cs,TR.cs]);obtain ⟨rfl,rfl⟩:=hck.2 _ _ hv;have h1:hinf (tbAt h' id)=some (0,n,e):=by rw [hhi id hh,hv];rfl
     refine ⟨rfl,.r (.one (.hp id 0 n e j)),fun r=>by simp [fiV,h1],rfl,fun c hc => ?_⟩;have:c=.hp id 0 n e j:=by simpa [TV.cs,TR.cs] using hc
     subst this;exact ⟨Nat.one_pos,fun m q k=>by rw [h1] at k;simp at k;exact k⟩
    ·cases he
   ·cases he
  ·rename_i h1 h2 h3;obtain ⟨e1,x,f1,g1⟩:=exC_ok he;refine ⟨e1,.r (.one (.c x)),fun r => ?_,by simp [TV.rv,TR.r1,TC.pv,g1],fun c' hc' => ?_⟩
   ·have:=f1 r;cases p with
    | ref id=>cases c<;>simp [exC] at he
    | vp id j=>cases c<;>simp [exC] at he
    | hp id j=>cases c<;>simp [exC] at he
    | _=>simp only [fiV,this]
   ·have:c'=.c x:=by simpa [TV.cs,TR.cs] using hc'
    subst this;trivial
 ·rename_i t cs;split at he
  ·rename_i xs ha hxs;split at he
   ·rename_i v hv;injection he with he;subst he;refine ⟨rfl,.r (.agg ((cells t v).map .c)),fun r=>by simp [fiV,asD_self],?_,fun c hc => ?_⟩
    ·simp only [TV.rv,TR.r1,cells_c,toV_ok hxs hv]
    ·obtain ⟨x,_,rfl⟩:=List.mem_map.1 (show c∈(cells t v).map .c from hc);trivial
   ·cases he
  ·cases he
 ·cases he
theorem exRs_ok {qs:List BP} {h h':List TB} {g:Nat} (hvl:∀ i,vlen (tbAt h' i)=(vlen (tbAt h i)).map (fun z=>(0,z.2))) (hhi:∀ i,isHole qs i=true→hinf (tbAt h' i)=(hinf (tbAt h i)).map (fun z=>(0,z.2))) {r0:List (Nat×TV)} (hc:∀ t,∀ c∈(lookT r0 t).cs,cok P h g c):∀ {ps:List (Nat×VP)} {l:List SD},exRs qs h r0 ps=some l →
  l.map (·.1)=tyRs ps∧∃ vs,(∀ r,fiRs h' ps (l++r)=some (vs,r))∧(∀ e∈vs,(lookT r0 e.1).rv=e.2.rv∧∀ c∈e.2.cs,cok P h' 1 c)∧vs.map (·.1)=ps.map (·.1)
 | [],l,he=>by injection he with he;subst he;exact ⟨rfl,[],fun r=>rfl,by simp,rfl⟩
 | (t,p)::ps,l,he=>by
  simp only [exRs] at he;split at he
  ·rename_i l1 l2 h1 h2;injection he with he;subst he;obtain ⟨e1,v',f1,g1,k1⟩:=exV_ok hvl hhi (hc t) h1;obtain ⟨e2,vs,f2,g2,k2⟩:=exRs_ok hvl hhi hc h2;refine ⟨by simp [tyRs,e1,e2],(t,v')::vs,fun r => ?_,fun e he => ?_,by simp [k2]⟩
   ·rw [List.append_assoc];simp only [fiRs,f1,f2]
   ·rcases List.mem_cons.1 he with rfl|he
    ·exact ⟨g1.symm,k1⟩
    ·exact g2 e he
  ·cases he
theorem exT_ok (hI:Inv P τ) {T:TPl} {l:List SD} (he:exT T τ=some l):l.map (·.1)=T.ty∧∃ τ',fiT T l=some τ'∧Inv P τ'∧τ'.h.map TB.slot=τ.h.map TB.slot∧(∀ e∈τ'.r,(lookT τ.r e.1).rv=e.2.rv)∧τ'.r.map (·.1)=T.rs.map (·.1):=by
 unfold exT at he;split at he
 ·rename_i l1 l2 h1 h2;injection he with he;subst he;have hbs:∀ b∈τ.h,bok P τ.h τ.g b:=by
   intro b hb;obtain ⟨j,hj⟩:=List.getElem?_of_mem hb;have:=hI.blks j;rw [tbAt_get,hj] at this;exact this
  have hlk:∀ t,∀ c∈(lookT τ.r t).cs,cok P τ.h τ.g c:=by
   intro t c hc;rcases lookT_mem τ.r t with k|⟨z,hz,k1,k2⟩
   ·rw [k] at hc;simp [TV.cs] at hc
   ·rw [k2] at hc;exact hI.regs z hz c hc
  obtain ⟨e1,bs',f1,v1,w1,g1⟩:=exBs_ok hbs h1;have hv1:Hvl τ.h bs':=v1;have hv2:Hvl τ.h (patBs bs' bs'):=fun i=>by rw [tbAt_pat,vlen_pat];exact v1 i
  obtain ⟨a1,a2⟩:=g1 bs' (patBs bs' bs') hv1 hv2;have hw2:∀ i,isHole T.bs i=true→hinf (tbAt (patBs bs' bs') i)=(hinf (tbAt τ.h i)).map (fun z=>(0,z.2)):=fun i hi=>by rw [tbAt_pat,hinf_pat];exact w1 i hi
  obtain ⟨e2,vs,f2,g2,k2⟩:=exRs_ok hv2 hw2 hlk h2;refine ⟨by simp [TPl.ty,e1,e2],⟨vs,patBs bs' bs',1⟩,?_,⟨fun e he c hc=>(g2 e he).2 c hc,fun i => ?_⟩,a1,fun e he=>(g2 e he).1,k2⟩
  ·have:=f2 [];rw [List.append_nil] at this;simp only [fiT,f1,this]
  ·show bok P (patBs bs' bs') 1 (tbAt (patBs bs' bs') i);rw [tbAt_get];cases hi:(patBs bs' bs')[i]? with
   | none=>trivial
   | some b=>exact a2 b (List.mem_of_getElem? hi)
 ·cases he
end
section
variable {P:Program} {G:Fr} {X:Ctx} {F:Nat→List Nat} {σ:St} {a:Act} {acts:List Act} {w:World} {M:Nat→Prop}
theorem put_self (h:SimW G X F σ (a::acts) w) (t:Nat):a.put (some t) (a.tmps.getD t undef)=a:=by
 have:a.tmps.setIfInBounds t (a.tmps.getD t undef)=a.tmps:=by
  apply Array.ext
  ·simp
  ·intro q h1 h2;rw [Array.getElem_setIfInBounds];split
   ·rename_i e;subst e;simp [Array.getD_eq_getD_getElem?,h2]
   ·rfl
 show ({ a with tmps:=a.tmps.setIfInBounds t (a.tmps.getD t undef) }:Act)=a;rw [this]
theorem Wk.nilReg {t b k:Nat} (hr:σ.reg t=.r (.one (.vs true k []))) (hb:σ.slot b=.fresh) (ht:t<σ.env.n):Wk G σ ((σ.setSlot b (.live ⟨0,k,[],[]⟩)).put t (.r (.one (.ref b 0 0 0)))):=by
 rintro acts w ⟨X,F,h⟩;cases acts with
 | nil=>cases h.envs
 | cons a acts =>
  have hf':X.H b=.fresh:=by rw [h.hH];exact hb
  have hs:=h.one (w':=w) b (.live ⟨0,k,[],[]⟩) none 0 [] (by simp) (fun B' _=>.inl hf') (fun B' e g hg=>by simp at hg) (fun B' e=>by simp) (Nat.le_refl _) (fun g hg _=>rfl) h.kept
   (fun B' e hX hM=>by
    injection e with e;subst e;exact ⟨by simp,[],RCs.nil,.inl ⟨rfl,0,by simp,.inl ⟨by simp [Ctx.upd,upd_same],rfl⟩⟩⟩) (fun x hx=>(h.not_win hf' x hx).elim)
  have hrr:=h.reg t;rw [hr] at hrr;have hv:a.tmps.getD t undef=.slice none 0 0:=by
   have hrr:RC w (Mut X F) X (.vs true k []) (a.tmps.getD t undef) []:=hrr;generalize a.tmps.getD t undef=v at hrr;generalize hfp:([]:List Nat)=fp at hrr;cases hrr with
   | own e hr hk hl hf hc =>
    rcases hr.2 with ⟨rfl,_⟩|⟨g,cap,cur,rfl,_⟩
    ·rfl
    ·simp [Value.ownBlock] at hfp
  have hput:=hs.put (d:=t) (v:=.r (.one (.ref b 0 0 0))) (u:=a.tmps.getD t undef) (by rw [hv];exact newRef (B:=⟨0,k,[],[]⟩) (A:=none) rfl _ _) ht;rw [put_self h] at hput;exact ⟨_,_,hput⟩
theorem Wk.move {t c b n full:Nat} {B:Blk} {l':List (List PV)} (hr:σ.reg t=.r (.one (.ref c 0 n full))) (hc:σ.slot c=.live B) (hl:B.l.length=full) (hkd:B.kd=0) (hnf:n≤full) (hb:σ.slot b=.fresh) (ht:t<σ.env.n) (hl':B.l.take n=l') :
  Wk G σ (((σ.setSlot c .dead).setSlot b (.live ⟨0,B.k,[],l'⟩)).put t (.r (.one (.ref b 0 n n)))):=by
 subst hl';rintro acts w ⟨X,F,h⟩;cases acts with
 | nil=>cases h.envs
 | cons a acts =>
  have hcX:X.H c=.live B:=by rw [h.hH];exact hc
  have hbX:X.H b=.fresh:=by rw [h.hH];exact hb
  have hcb:c≠b:=by rintro rfl;rw [hcX] at hbX;cases hbX
  obtain ⟨hk,xs,hcs,hrow⟩:=h.blk c B hcX;obtain ⟨hll,fps,hfps,hF,hrc⟩:=hcs;obtain ⟨e,hrow⟩:∃ e,w.ownsRow 0 e B.k (.slice ((X.A c).map baseOf) B.l.length (X.C c)) B.l.length xs:=by
   rcases hrow with ⟨_,k⟩|⟨k,_⟩
   ·exact k
   ·exact (k hkd).elim
  let B1:Blk:=⟨0,B.k,[],B.l.take n⟩
  have hB1:B1.l.length=n:=by simp [B1];omega
  have hfl:(B.l.take n).flatten=B.l.flatten.take (n*B.k):=flatten_take _ hk n
  let F1:Nat→List Nat:=upd F b (fps.take (n*B.k)).flatten
  let X1:Ctx:=⟨upd (upd X.H c .dead) b (.live B1),upd X.A b (X.A c),upd X.C b (X.C c),X.τ,X.N⟩
  have e1:X1.H b=.live B1:=by simp [X1,upd]
  have e2:X1.H c=.dead:=by simp [X1,upd,hcb]
  have e3:∀ i,i≠b→i≠c→X1.H i=X.H i:=by intro i h1 h2;simp [X1,upd,h1,h2]
  have hOne:∀ i,i≠b→Own X1 F1 i=Own X F i:=by intro i hi;simp [Own,X1,F1,upd,hi]
  have hsub:∀ g,g∈(fps.take (n*B.k)).flatten→g∈F c:=by
   intro g hg;obtain ⟨f,hfm,hgf⟩:=List.mem_flatten.1 hg;rw [hF];exact List.mem_flatten.2 ⟨f,List.mem_of_mem_take hfm,hgf⟩
  have hOb:∀ g,g∈Own X1 F1 b→g∈Own X F c:=by
   intro g hg;have:Own X1 F1 b=((X.A c).map (·.1)).toList++(fps.take (n*B.k)).flatten:=by simp [Own,X1,F1,upd]
   rw [this] at hg;rcases lma.1 hg with k|k
   ·exact lma.2 (.inl k)
   ·exact lma.2 (.inr (hsub g k))
  have hlive:∀ i B0,X1.H i=.live B0→(i=b∧B0=B1)∨(i≠b∧i≠c∧X.H i=.live B0):=by
   intro i B0 hi;by_cases h1:i=b
   ·subst h1;rw [e1] at hi;injection hi with hi;exact .inl ⟨rfl,hi.symm⟩
   ·by_cases h2:i=c
    ·subst h2;rw [e2] at hi;cases hi
    ·rw [e3 i h1 h2] at hi;exact .inr ⟨h1,h2,hi⟩
  have hM1:∀ g,Mut1 X1 F1 g→Mut1 X F g:=by
   rintro g ⟨i,B0,hi,hg⟩;rcases hlive i B0 hi with ⟨rfl,rfl⟩|⟨h1,h2,h3⟩
   ·exact ⟨c,B,hcX,hOb g hg⟩
   ·rw [hOne i h1] at hg;exact ⟨i,B0,h3,hg⟩
  have hMM:∀ g,g<w.heap.size→¬ Mut X F g→¬ Mut X1 F1 g:=fun g _ hn hm=>hn (hm.imp (fun k=>k) (hM1 g))
  have hX:X.Le X1:=by
   refine ⟨fun i hi => ?_,fun i B0 hi => ?_,rfl⟩
   ·by_cases h1:i=b
    ·subst h1;rw [e1] at hi;cases hi
    ·by_cases h2:i=c
     ·subst h2;rw [e2] at hi;cases hi
     ·rw [e3 i h1 h2] at hi;exact hi
   ·rcases hlive i B0 hi with ⟨rfl,rfl⟩|⟨h1,h2,h3⟩
    ·exact .inl hbX
    ·exact .inr ⟨B0,h3,.inr ⟨rfl,rfl,rfl,by simp [X1,upd,h1],by simp [X1,upd,h1]⟩⟩
  have hs1:SimW G X1 F1 ((σ.setSlot c .dead).setSlot b (.live B1)) (a::acts) w:=by
   refine h.step (fun i => ?_) hX rfl rfl rfl (fun g hg=>.inl (hM1 g hg)) (fun g hg=>h.lt g (hM1 g hg)) (fun _ _ _=>rfl) h.kept (fun i B0 hi => ?_) (fun i B0 hi => ?_) (fun i i' B0 B2 hi hi' hii g hg hg' => ?_) (fun i x hx => ?_)
   ·rw [St.slot_setSlot,St.slot_setSlot];by_cases h1:i=b
    ·subst h1;rw [e1,if_pos rfl]
    ·rw [if_neg h1];by_cases h2:i=c
     ·subst h2;rw [e2,if_pos rfl]
     ·rw [if_neg h2,e3 i h1 h2,h.hH]
   ·rcases hlive i B0 hi with ⟨rfl,rfl⟩|⟨h1,h2,h3⟩
    ·refine ⟨fun c0 hc0=>hk c0 (List.mem_of_mem_take hc0),xs.take (n*B.k),?_,.inl ⟨rfl,e,?_⟩⟩
     ·show RCs w (Mut X1 F1) X1 (B.l.take n).flatten (xs.take (n*B.k)) (F1 i);rw [hfl,show F1 i=(fps.take (n*B.k)).flatten by simp [F1,upd]];refine ⟨by simp [hll],fps.take (n*B.k),by simp [hfps],rfl,fun q p u f hp hu' hf' => ?_⟩;rw [List.getElem?_take] at hp hu' hf';split at hp
      ·rename_i hq;rw [if_pos hq] at hu' hf';exact (hrc q p u f hp hu' hf').frame (fun _ _=>rfl) (fun _ _ _=>rfl) hMM hX
      ·cases hp
     ·rw [hB1];have hA:X1.A i=X.A c:=by simp [X1,upd]
      have hC:X1.C i=X.C c:=by simp [X1,upd]
      rw [hA,hC];have hxl:=hrow.1;refine ⟨by rw [List.length_take,hxl];exact Nat.min_eq_left (Nat.mul_le_mul_right _ (by omega)),?_⟩;rcases hrow.2 with ⟨hv,h0⟩|⟨g,cap,cur,hv,r1,r2,r3,r4,r5,r6⟩
      ·left;have:n=0:=by omega
       subst this;rw [h0] at hv;exact ⟨hv,rfl⟩
      ·right;injection hv with v1 v2 v3;refine ⟨g,cap,cur,by rw [v1,v3],r1,r2,by omega,r4,r5,?_⟩;rw [← r6,List.take_take];congr 1;exact (Nat.min_eq_left (Nat.mul_le_mul_right _ (by omega))).symm
    ·rw [show F1 i=F i by simp [F1,upd,h1]];exact (h.blk i B0 h3).frame (fun _ _=>rfl) (fun _ _ _=>rfl) hMM hX (by simp [X1,upd,h1]) (by simp [X1,upd,h1])
   ·rcases hlive i B0 hi with ⟨rfl,rfl⟩|⟨h1,h2,h3⟩
    ·have:Own X1 F1 i=((X.A c).map (·.1)).toList++(fps.take (n*B.k)).flatten:=by simp [Own,X1,F1,upd]
     rw [this];have hndF:(((X.A c).map (·.1)).toList++fps.flatten).Nodup:=by rw [← hF];exact h.nd c B hcX
     refine hndF.sublist (List.Sublist.append (List.Sublist.refl _) ?_)
     conv=>rhs;rw [← List.take_append_drop (n*B.k) fps,List.flatten_append]
     exact List.sublist_append_left _ _
    ·rw [hOne i h1];exact h.nd i B0 h3
   ·rcases hlive i B0 hi with ⟨rfl,rfl⟩|⟨h1,h2,h3⟩<;>rcases hlive i' B2 hi' with ⟨rfl,rfl⟩|⟨m1,m2,m3⟩
    ·exact hii rfl
    ·rw [hOne i' m1] at hg';exact h.dj c i' B B2 hcX m3 (fun e=>m2 e.symm) g (hOb g hg) hg'
    ·rw [hOne i h1] at hg;exact h.dj i c B0 B h3 hcX h2 g hg (hOb g hg')
    ·rw [hOne i h1] at hg;rw [hOne i' m1] at hg';exact h.dj i i' B0 B2 h3 m3 hii g hg hg'
   ·obtain ⟨B0,hB0,k1,k2,k3⟩:=h.win i x hx;have h1:i≠b:=by rintro rfl;rw [hbX] at hB0;cases hB0
    have h2:i≠c:=by rintro rfl;rw [hcX] at hB0;injection hB0 with hB0;subst hB0;omega
    exact ⟨B0,by rw [e3 i h1 h2];exact hB0,k1,by simp [X1,upd,h1,k2],k3⟩
  have hrr:=h.reg t;rw [hr] at hrr;have hrr:RC w (Mut X F) X (.ref c 0 n full) (a.tmps.getD t undef) []:=hrr;obtain ⟨h0,_,hlv⟩:=hrr.ref_inv;obtain ⟨_,h3⟩:=hlv B hcX;obtain ⟨_,hle,A,cc,hv,hlc,hA0,_⟩:=h3 hl;obtain ⟨hA,hcc⟩:=hA0 rfl;have hput:=hs1.put (d:=t) (v:=.r (.one (.ref b 0 n n))) (u:=a.tmps.getD t undef) (by
   refine RC.ref (by rw [e1];simp) (fun B' hB' => ?_) ⟨A,cc,hv⟩;rw [e1] at hB';injection hB' with hB';subst hB'
   refine ⟨by omega,fun _=>⟨rfl,by omega,A,cc,hv,hlc,fun _=>⟨?_,?_⟩,fun _ => ?_⟩⟩
   ·rw [hA];simp [X1,upd]
   ·rw [hcc];simp [X1,upd]
   ·rw [hA];simp only [Nat.zero_mul];have:X1.A b=X.A c:=by simp [X1,upd]
    rw [this];cases X.A c with
    | none=>rfl
    | some z=>show some (baseOf z)=some ((baseOf z).add 0);rw [show (baseOf z).add 0=baseOf z by rw [add_baseOf];rfl]) ht
  rw [put_self h] at hput;exact ⟨X1,F1,hput⟩
end
def iterN {A B:Type} (f:A→Option (A⊕B)):Nat→A→Option B
 | 0,_=>none
 | n+1,a=>match f a with
  | some (.inl a')=>iterN f n a'
  | some (.inr b)=>some b
  | none=>none
open Classical in
noncomputable def iter {A B:Type} (f:A→Option (A⊕B)) (a:A):Option B :=
 if h:∃ b n,iterN f n a=some b then some h.choose else none
theorem iter_some {A B:Type} {f:A→Option (A⊕B)} {a:A} {b:B} (h:iter f a=some b):∃ n,iterN f n a=some b:=by
 unfold iter at h;split at h
 ·rename_i hx;injection h with h;subst h;exact hx.choose_spec
 ·cases h
theorem iterN_det {A B:Type} {f:A→Option (A⊕B)}:∀ {n m:Nat} {a:A} {b c:B},iterN f n a=some b→iterN f m a=some c→b=c
 | 0,_,_,_,_,h,_=>by cases h
 | _+1,0,_,_,_,_,h=>by cases h
 | n+1,m+1,a,b,c,h,k=>by
  simp only [iterN] at h k;split at h
  ·rename_i a' e;rw [e] at k;exact iterN_det h k
  ·rename_i b' e;rw [e] at k;simp only at k;injection h with h;injection k with k;rw [← h,←k]
  ·cases h
theorem iterN_iter {A B:Type} {f:A→Option (A⊕B)} {a:A} {b:B} {n:Nat} (h:iterN f n a=some b):iter f a=some b:=by
 unfold iter;have hx:∃ b n,iterN f n a=some b:=⟨b,n,h⟩
 rw [dif_pos hx];obtain ⟨m,hm⟩:=hx.choose_spec;exact congrArg some (iterN_det hm h)
theorem iter_eq {A B:Type} (f:A→Option (A⊕B)) (a:A):iter f a=match f a with
  | some (.inl a')=>iter f a'
  | some (.inr b)=>some b
  | none=>none:=by
 cases hf:f a with
 | none =>
  cases hi:iter f a with
  | none=>rfl
  | some b =>
   obtain ⟨n,hn⟩:=iter_some hi;cases n with
   | zero=>cases hn
   | succ n=>simp only [iterN,hf] at hn;cases hn
 | some o =>
  cases o with
  | inr b=>exact iterN_iter (n:=1) (by simp only [iterN,hf])
  | inl a' =>
   simp only;cases hi:iter f a' with
   | some b =>
    obtain ⟨n,hn⟩:=iter_some hi;exact iterN_iter (n:=n+1) (by simp only [iterN,hf];exact hn)
   | none =>
    cases hj:iter f a with
    | none=>rfl
    | some b =>
     obtain ⟨n,hn⟩:=iter_some hj;cases n with
     | zero=>cases hn
     | succ n =>
      simp only [iterN,hf] at hn;rw [iterN_iter hn] at hi;cases hi
def cs {A B C:Type} (o:A⊕B) (f:A→Option C) (g:B→Option C):Option C:=match o with
 | .inl a=>f a
 | .inr b=>g b
structure Port where
 T:TPl
 lv:List Nat
 fz:List Nat
inductive TCd where
 | skip
 | reg (ops:List (AOp×Option Ty)) (lv fz:List Nat)
 | dreg (ord:List (List Nat)) (ops:List (AOp×Option Ty)) (lv fz:List Nat)
 | dregS (ord:List (List Nat)) (ops:List (AOp×Option Ty)) (m:Nat) (lv fz:List Nat)
 | seq (x y:TCd)
 | cond (c:Ix) (x y:TCd)
 | block (i:Nat) (x:TCd)
 | loop (p:Port) (ps:List (Exit×Port)) (x:TCd)
 | unr (k:Nat) (x:TCd)
 | join (ps:List (Exit×Port)) (x:TCd)
 | gh (l:List (Nat×List (Nat×Nat))) (x:TCd)
 | exit (i:Nat)
 | ret
 | bad
def TCd.ac:TCd→AC
 | .skip=>.skip
 | .reg ops _ _=>.reg (opsOf ops)
 | .dreg ord ops _ _=>.dreg ord (opsOf ops)
 | .dregS ord ops _ _ _=>.dreg ord (opsOf ops)
 | .seq x y=>.seq x.ac y.ac
 | .cond c x y=>.cond c x.ac y.ac
 | .block i x=>.block i x.ac
 | .loop _ _ x=>.loop x.ac
 | .unr _ x=>.loop x.ac
 | .join _ x=>x.ac
 | .gh _ x=>x.ac
 | .exit i=>.exit i
 | .ret=>.ret
 | .bad=>.bad
def TCd.wr:TCd→List Nat
 | .reg ops _ _=>wrOps ops
 | .dreg _ ops _ _=>wrOps ops
 | .dregS _ ops _ _ _=>wrOps ops
 | .seq x y=>x.wr++y.wr
 | .cond _ x y=>x.wr++y.wr
 | .block _ x=>x.wr
 | .loop _ _ x=>x.wr
 | .unr _ x=>x.wr
 | .join _ x=>x.wr
 | .gh _ x=>x.wr
 | _=>[]
def exKB:Exit→Exit→Bool
 | .normal,.normal=>true
 | .ret,.ret=>true
 | .exit i,.exit j=>Nat.beq i j
 | _,_=>false
theorem exKB_eq {a b:Exit} (h:exKB a b=true):a=b:=by
 cases a<;>cases b<;>first|rfl|(cases h;done)|skip
 exact congrArg Exit.exit (nbe h)
def fxs (W:List Nat) (r:List (Nat×TV)):List Nat→List (Nat×TV)
 | []=>[]
 | t::l=>match memB t W with
  | true=>fxs W r l
  | false=>match lookT r t with
   | .un=>fxs W r l
   | v=>match pureV v with
    | true=>(t,v)::fxs W r l
    | false=>fxs W r l
def rsOk (W:List Nat) (r:List (Nat×TV)):List (Nat×VP)→Bool
 | []=>true
 | (t,_)::l=>(memB t W || !pureV (lookT r t))&&rsOk W r l
def rsOks (W:List Nat) (r:List (Nat×TV)):List (Exit×Port)→Bool
 | []=>true
 | (_,p)::l=>rsOk W r p.T.rs&&rsOks W r l
def hasAll (r:List (Nat×TV)):List (Nat×TV)→Bool
 | []=>true
 | (t,_)::l=>match lookT r t with
  | .un=>false
  | _=>hasAll r l
def mkOs:(ts:List Ty)→List SD→Option (DenOs ts)
 | [],[]=>some ()
 | [t],[w]=>asD w.1 t w.2
 | t::u::ts,w::r=>match asD w.1 t w.2,mkOs (u::ts) r with
  | some x,some y=>some (x,y)
  | _,_=>none
 | _,_=>none
def nilR (n:Nat) (τ:TSt) (t:Nat):TSt:=match lookT τ.r t,Nat.ble (t+1) n with
 | .r (.one (.c (.nl true k))),true=>⟨(t,.r (.one (.ref τ.h.length τ.g 0)))::τ.r,setT τ.h τ.h.length (.nb τ.g k),τ.g+1⟩
 | .r (.one (.part id v lo len n)),true=>match lo,tbAt τ.h id with
  | 0,.sl u v' l=>match Nat.beq v v' with
   | true=>⟨(t,.r (.one (.ref τ.h.length τ.g len)))::τ.r,setT (setT τ.h id .dead) τ.h.length (.sl u τ.g (l.take len)),τ.g+1⟩
   | false=>τ
  | _,_=>τ
 | _,_=>τ
def nilRs (n:Nat):List (Nat×VP)→TSt→TSt
 | [],τ=>τ
 | (t,.one (.ref _))::r,τ=>nilRs n r (nilR n τ t)
 | _::r,τ=>nilRs n r τ
def expF:List BP→Nat→TSt→TSt
 | [],_,τ=>τ
 | .var _ l::r,i,τ=>match hasUn l with
  | true=>expF r (i+1) (rowExp τ i)
  | false=>expF r (i+1) τ
 | .hole _ l::r,i,τ=>match hasUn l with
  | true=>expF r (i+1) (rowExp τ i)
  | false=>expF r (i+1) τ
 | _::r,i,τ=>expF r (i+1) τ
def fgN (n:Nat) (fg:List BP) (fz lv:List Nat) (τ:TSt):TSt:=match fg with
 | []=>τ
 | _::_=>norm n fz lv (fgt fg (expF fg 0 τ))
def exP (n:Nat) (p:Port) (fx:List (Nat×TV)) (τ:TSt):Option (DenOs p.T.ty) :=
 let τ1:=fgN n p.T.fg p.fz p.lv (norm n p.fz p.lv (nilRs n p.T.rs τ))
 match hasAll τ1.r fx with
 | true=>match exT p.T τ1 with
  | some l=>mkOs p.T.ty l
  | none=>none
 | false=>none
def enP (p:Port) (fx:List (Nat×TV)) (v:DenOs p.T.ty):Option TSt :=
 match fiT p.T (outL p.T.ty v) with
 | some τ=>some ⟨τ.r++fx,τ.h,τ.g⟩
 | none=>none
@[reducible] def OutT:List (Exit×Port)→Type
 | []=>Empty
 | [(_,p)]=>DenOs p.T.ty
 | (_,p)::q::r=>DenOs p.T.ty⊕OutT (q::r)
def packs (n:Nat) (W:List Nat) (r:List (Nat×TV)):(ps:List (Exit×Port))→Exit→TSt→Option (OutT ps)
 | [],_,_=>none
 | [(e,p)],e',τ=>match exKB e' e with
  | true=>exP n p (fxs W r p.lv) τ
  | false=>none
 | (e,p)::q::ps,e',τ=>match exKB e' e with
  | true=>match exP n p (fxs W r p.lv) τ with
   | some v=>some (.inl v)
   | none=>none
  | false=>match packs n W r (q::ps) e' τ with
   | some o=>some (.inr o)
   | none=>none
def unpacks (W:List Nat) (r:List (Nat×TV)) {R:Type} (K:Exit→TSt→Option R):(ps:List (Exit×Port))→OutT ps→Option R
 | [],_=>none
 | [(e,p)],v=>match enP p (fxs W r p.lv) v with
  | some τ=>K e τ
  | none=>none
 | (e,p)::q::ps,o=>cs o (fun v=>match enP p (fxs W r p.lv) v with
   | some τ=>K e τ
   | none=>none) fun o=>unpacks W r K (q::ps) o
noncomputable def trun {P:Program} (tab:List (AEnt P)) (n:Nat):TCd→TSt→{R:Type}→(Exit→TSt→Option R)→Option R
 | .skip,τ,_,K=>K .normal τ
 | .reg ops lv fz,τ,_,K=>regT tab ops [] (frzAll n fz τ) fun τ'=>K .normal (norm n [] lv τ')
 | .dreg ord ops lv fz,τ,_,K=>dregT tab ops [] (frzAll n fz τ) fun τ' ts=>match okOrd ord&&okPairs (ops.length+1) ord ts with
  | true=>K .normal (norm n [] lv τ')
  | false=>none
 | .dregS ord ops m lv fz,τ,_,K=>dregN tab (ops.take m) [] (frzAll n fz τ) fun τ' kn ts=>match okOrd ord&&okPairs (ops.length+1) ord ts&&(okSuf (ops.length+1) ord m&&Nat.ble m ops.length) with
  | true=>regT tab (ops.drop m) kn τ' fun τ''=>K .normal (norm n [] lv τ'')
  | false=>none
 | .seq x y,τ,_,K=>trun tab n x τ fun e τ'=>match e with
  | .normal=>trun tab n y τ' K
  | e=>K e τ'
 | .cond c x y,τ,_,K=>match τ.ev1 c with
  | .c (.b v)=>cnd v (trun tab n x τ K) (trun tab n y τ K)
  | _=>none
 | .block i x,τ,_,K=>trun tab n x τ fun e τ'=>match e with
  | .exit j=>match Nat.beq j i with
   | true=>K .normal τ'
   | false=>K (.exit j) τ'
  | e=>K e τ'
 | .loop p ps x,τ,_,K=>match rsOk x.wr τ.r p.T.rs&&rsOks x.wr τ.r ps with
  | true=>match exP n p (fxs x.wr τ.r p.lv) τ with
   | some v0=>bd (iter (fun v=>match enP p (fxs x.wr τ.r p.lv) v with
    | some τ1=>trun tab n x τ1 fun e τ'=>match e with
     | .normal=>match exP n p (fxs x.wr τ.r p.lv) τ' with
      | some v=>some (.inl v)
      | none=>none
     | e=>match packs n x.wr τ.r ps e τ' with
      | some o=>some (.inr o)
      | none=>none
    | none=>none) v0) fun o=>unpacks x.wr τ.r K ps o
   | none=>none
  | false=>none
 | .unr k x,τ,_,K=>unr k (trun tab n x) τ K
 | .join ps x,τ,_,K=>match rsOks x.wr τ.r ps with
  | true=>bd (trun tab n x τ fun e τ'=>packs n x.wr τ.r ps e τ') fun o=>unpacks x.wr τ.r K ps o
  | false=>none
 | .gh l x,τ,_,K=>ghS l τ fun τ'=>trun tab n x τ' K
 | .exit i,τ,_,K=>K (.exit i) τ
 | .ret,τ,_,K=>K .ret τ
 | .bad,_,_,_=>none
def NormW (W:List Nat) (f g:Nat→TV):Prop:=∀ r,r∈W∨g r=f r∨g r=.un∨pureV (f r)=false
theorem NormW.refl (W:List Nat) (f:Nat→TV):NormW W f f:=fun _=>.inr (.inl rfl)
theorem NormW.trans {W:List Nat} {f g h:Nat→TV} (a:NormW W f g) (b:NormW W g h):NormW W f h:=fun r=>by
 rcases a r with e|e|e|e
 ·exact .inl e
 ·rcases b r with k|k|k|k
  ·exact .inl k
  ·exact .inr (.inl (k.trans e))
  ·exact .inr (.inr (.inl k))
  ·exact .inr (.inr (.inr (by rw [← e];exact k)))
 ·rcases b r with k|k|k|k
  ·exact .inl k
  ·exact .inr (.inr (.inl (k.trans e)))
  ·exact .inr (.inr (.inl k))
  ·rw [e] at k;cases k
 ·exact .inr (.inr (.inr e))
theorem NormW.sub {W W':List Nat} {f g:Nat→TV} (a:NormW W f g) (h:∀ t∈W,t∈W'):NormW W' f g:=fun r=>(a r).imp (h r) id
theorem NormW.stable (W:List Nat) (f:Nat→TV):Stable W (NormW W f):=fun g d v hd hj r=>by
 by_cases e:r=d
 ·subst e;exact .inl hd
 ·simp only [if_neg e];exact hj r
theorem memB_mem {x:Nat}:∀ {l:List Nat},memB x l=true→x∈l
 | y::r,h=>by
  simp only [memB,Bool.or_eq_true] at h;rcases h with h|h
  ·have:=nbe h;subst this;simp
  ·simp [memB_mem h]
theorem mkOs_ok:∀ {ts:List Ty} {l:List SD} {v:DenOs ts},mkOs ts l=some v→outL ts v=l
 | [],[],v,h=>rfl
 | [t],[w],v,h=>by
  obtain ⟨u,x⟩:=w;simp only [mkOs,asD] at h;split at h
  ·rename_i e _;subst e;injection h with h;subst h;rfl
  ·cases h
 | t::u::ts,w::r,v,h=>by
  simp only [mkOs] at h;split at h
  ·rename_i x y h1 h2;injection h with h;subst h;obtain ⟨u',x'⟩:=w;simp only [asD] at h1;split at h1
   ·rename_i e _;subst e;injection h1 with h1;subst h1
    simp only [outL,mkOs_ok h2]
   ·cases h1
  ·cases h
 | [],_::_,_,h=>by cases h
 | [_],[],_,h=>by cases h
 | [_],_::_::_,_,h=>by cases h
 | _::_::_,[],_,h=>by cases h
theorem lookT_app:∀ (a b:List (Nat×TV)) (t:Nat),(t∈a.map (·.1)∧lookT (a++b) t=lookT a t)∨(t∉a.map (·.1)∧lookT (a++b) t=lookT b t)
 | [],b,t=>.inr ⟨by simp,rfl⟩
 | (s,v)::a,b,t=>by
  simp only [List.cons_append,lookT,List.map_cons,List.mem_cons];cases hb:Nat.beq t s with
  | true=>exact .inl ⟨.inl (nbe hb),rfl⟩
  | false =>
   have:t≠s:=fun e=>by subst e;rw [Nat.beq_refl] at hb;cases hb
   simp only [this,false_or];exact lookT_app a b t
theorem fxs_mem {W:List Nat} {r:List (Nat×TV)}:∀ {l:List Nat} {e:Nat×TV},e∈fxs W r l→lookT r e.1=e.2∧pureV e.2=true∧e.2≠.un∧e.1∉W
 | t::l,e,h=>by
  simp only [fxs] at h;split at h
  ·exact fxs_mem h
  ·rename_i hm;split at h
   ·exact fxs_mem h
   ·rename_i hu;split at h
    ·rename_i hp;rcases List.mem_cons.1 h with rfl|h
     ·refine ⟨rfl,hp,fun e=>hu e,fun hw => ?_⟩;have:memB t W=true:=by
       clear hm h hp hu;induction W with
       | nil=>cases hw
       | cons y W ih =>
        simp only [memB,Bool.or_eq_true];rcases List.mem_cons.1 hw with rfl|hw
        ·exact .inl (Nat.beq_refl _)
        ·exact .inr (ih hw)
      rw [hm] at this;cases this
     ·exact fxs_mem h
    ·exact fxs_mem h
theorem rsOk_ok {W:List Nat} {r:List (Nat×TV)}:∀ {l:List (Nat×VP)},rsOk W r l=true→∀ t∈l.map (·.1),t∈W∨pureV (lookT r t)=false
 | [],_,t,h=>by simp at h
 | (s,v)::l,h,t,ht=>by
  simp only [rsOk,bae,Bool.or_eq_true,Bool.not_eq_true'] at h;rcases List.mem_cons.1 ht with rfl|ht
  ·exact h.1.imp memB_mem id
  ·exact rsOk_ok h.2 t ht
theorem hasAll_ok {r:List (Nat×TV)}:∀ {l:List (Nat×TV)},hasAll r l=true→∀ e∈l,lookT r e.1≠.un
 | [],_,e,h=>by simp at h
 | (s,v)::l,h,e,he=>by
  simp only [hasAll] at h;split at h
  ·cases h
  ·rename_i hu;rcases List.mem_cons.1 he with rfl|he
   ·exact fun e=>hu e
   ·exact hasAll_ok h e he
theorem pureV_cok {P:Program} {h h':List TB} {g g':Nat} {v:TV} (hp:pureV v=true) (hc:∀ c∈v.cs,cok P h g c):∀ c∈v.cs,cok P h' g' c:=by
 have key:∀ l:List TC,pureCs l=true→(∀ c∈l,cok P h g c)→∀ c∈l,cok P h' g' c:=by
  intro l;induction l with
  | nil=>intro _ _ c hc;cases hc
  | cons x l ih =>
   intro hp hl c hc;simp only [pureCs,bae] at hp;rcases List.mem_cons.1 hc with rfl|hc
   ·have h1:=hl c (by simp)
    revert h1
    cases c<;>first|(intro h1;exact h1)|(exfalso;exact absurd hp.1 (by simp [pureC]))
   ·exact ih hp.2 (fun c hc=>hl c (by simp [hc])) c hc
 cases v with
 | r x=>exact key _ hp hc
 | tup l =>
  have kr:∀ l:List TR,pureRs l=true→(∀ x∈l,pureCs x.cs=true):=by
   intro l;induction l with
   | nil=>intro _ x hx;cases hx
   | cons y l ih =>
    intro hp x hx;simp only [pureRs,bae] at hp;rcases List.mem_cons.1 hx with rfl|hx
    ·exact hp.1
    ·exact ih hp.2 x hx
  intro c hc';have hc0:=hc';simp only [TV.cs,List.mem_flatMap] at hc';obtain ⟨x,hx,hcx⟩:=hc';exact key _ (kr l hp x hx) (fun c hc1=>hc c (by simp only [TV.cs,List.mem_flatMap];exact ⟨x,hx,hc1⟩)) c hcx
 | un=>intro c hc;cases hc
section
variable {P:Program} {G:Fr} {n:Nat} {tab:List (AEnt P)}
theorem nilR_ok {τ:TSt} (hI:Inv P τ) (t:Nat):Inv P (nilR n τ t)∧(∀ G,Wk G (img n τ) (img n (nilR n τ t)))∧∀ r,r≠t→lookT (nilR n τ t).r r=lookT τ.r r:=by
 unfold nilR;split
 ·rename_i k hl hn;have hn:=Nat.le_of_ble_eq_true hn;have le:HLe τ.h τ.g (setT τ.h τ.h.length (.nb τ.g k)) (τ.g+1):=by
   refine ⟨Nat.le_succ _,fun z u m hu e => ?_,fun z u m q hu e => ?_⟩
   ·rw [tbAt_setT] at e;by_cases hi:z=τ.h.length
    ·rw [if_pos hi] at e;simp only [vlen,osi,Prod.mk.injEq] at e;omega
    ·rwa [if_neg hi] at e
   ·rw [tbAt_setT] at e;by_cases hi:z=τ.h.length
    ·rw [if_pos hi] at e;simp [hinf] at e
    ·rwa [if_neg hi] at e
  refine ⟨⟨fun e he c hc => ?_,fun z => ?_⟩,fun G => ?_,fun r hr => ?_⟩
  ·rcases List.mem_cons.1 he with rfl|he
   ·have:c=.ref τ.h.length τ.g 0:=by simpa [TV.cs,TR.cs] using hc
    subst this;refine ⟨Nat.lt_succ_self _,fun m hm => ?_⟩;rw [tbAt_setT,if_pos rfl] at hm;simp only [vlen,osi,Prod.mk.injEq] at hm;exact hm.2
   ·exact le.cok (hI.regs e he c hc)
  ·show bok P _ _ (tbAt (setT τ.h τ.h.length (.nb τ.g k)) z);rw [tbAt_setT];by_cases hi:z=τ.h.length
   ·rw [if_pos hi];exact Nat.lt_succ_self _
   ·rw [if_neg hi];exact le.bok (hI.blks z)
  ·have hreg:(img n τ).reg t=.r (.one (.vs true k [])):=by rw [img_reg,hl];rfl
   have:=Wk.nilReg (G:=G) hreg (img_fresh τ.h.length (Nat.le_refl _)) (show t<n by omega);have e2:((img n τ).setSlot τ.h.length (.live ⟨0,k,[],[]⟩)).put t (.r (.one (.ref τ.h.length 0 0 0)))=img n ⟨(t,.r (.one (.ref τ.h.length τ.g 0)))::τ.r,setT τ.h τ.h.length (.nb τ.g k),τ.g+1⟩:=by
    show St.mk _ _ (setAt (τ.h.map TB.slot) τ.h.length (TB.nb τ.g k).slot)=_;rw [setAt_map];rfl
   rw [e2] at this;exact this
  ·simp only [lookT];split
   ·rename_i e;exact (hr (nbe e)).elim
   ·rfl
 ·rename_i id v lo len m hl hn;have hn:=Nat.le_of_ble_eq_true hn;split
  ·rename_i u v' l hB;split
   ·rename_i hv;have hv:=nbe hv;subst hv;have hck:(v<τ.g∧∀ q,vlen (tbAt τ.h id)=some (v,q)→m=q)∧0+len≤m:=by
     rcases lookT_mem τ.r t with k|⟨z,hz,k1,k2⟩
     ·rw [hl] at k;cases k
     ·refine hI.regs z hz (.part id v 0 len m) ?_;rw [← k2,hl];simp [TV.cs,TR.cs]
    have hm:m=l.length:=hck.1.2 _ (by rw [hB];rfl);have hlen:len≤l.length:=by have:=hck.2;omega
    have htl:(l.take len).length=len:=by simp;omega
    have hlt:id<τ.h.length:=lt_of_tb hB (by simp);have hat:∀ z,tbAt (setT (setT τ.h id .dead) τ.h.length (.sl u τ.g (l.take len))) z=if z=τ.h.length then .sl u τ.g (l.take len) else if z=id then .dead else tbAt τ.h z:=by
     intro z;rw [tbAt_setT,tbAt_setT]
    have le:HLe τ.h τ.g (setT (setT τ.h id .dead) τ.h.length (.sl u τ.g (l.take len))) (τ.g+1):=by
     refine ⟨Nat.le_succ _,fun z a q hu e => ?_,fun z a q q' hu e => ?_⟩
     ·rw [hat] at e;split at e
      ·simp only [vlen,osi,Prod.mk.injEq] at e;omega
      ·split at e
       ·cases e
       ·exact e
     ·rw [hat] at e;split at e
      ·simp [hinf] at e
      ·split at e
       ·cases e
       ·exact e
    refine ⟨⟨fun e he c hc => ?_,fun z => ?_⟩,fun G => ?_,fun r hr => ?_⟩
    ·rcases List.mem_cons.1 he with rfl|he
     ·have:c=.ref τ.h.length τ.g len:=by simpa [TV.cs,TR.cs] using hc
      subst this;refine ⟨Nat.lt_succ_self _,fun q hq => ?_⟩;rw [hat,if_pos rfl] at hq;simp only [vlen,osi,Prod.mk.injEq] at hq;rw [← hq.2,htl]
     ·exact le.cok (hI.regs e he c hc)
    ·show bok P _ _ (tbAt (setT (setT τ.h id .dead) τ.h.length (.sl u τ.g (l.take len))) z);rw [hat];split
     ·exact Nat.lt_succ_self _
     ·split
      ·trivial
      ·exact le.bok (hI.blks z)
    ·have hreg:(img n τ).reg t=.r (.one (.ref id 0 len m)):=by rw [img_reg,hl];rfl
     have hslot:(img n τ).slot id=.live ⟨0,u.sz,[],l.map (enc u)⟩:=by rw [img_slot,hB];rfl
     have:=Wk.move (G:=G) (b:=τ.h.length) hreg hslot (by simp [hm]) rfl (by omega) (img_fresh τ.h.length (Nat.le_refl _)) (show t<n by omega) (l':=(l.take len).map (enc u)) (by simp [List.map_take]);have e2:(((img n τ).setSlot id .dead).setSlot τ.h.length (.live ⟨0,u.sz,[],(l.take len).map (enc u)⟩)).put t (.r (.one (.ref τ.h.length 0 len len)))=img n ⟨(t,.r (.one (.ref τ.h.length τ.g len)))::τ.r,setT (setT τ.h id .dead) τ.h.length (.sl u τ.g (l.take len)),τ.g+1⟩:=by
      show St.mk _ _ (setAt (setAt (τ.h.map TB.slot) id (TB.dead).slot) τ.h.length (TB.sl u τ.g (l.take len)).slot)=_;rw [setAt_map,setAt_map];rfl
     rw [e2] at this;exact this
    ·simp only [lookT];split
     ·rename_i e;exact (hr (nbe e)).elim
     ·rfl
   ·exact ⟨hI,fun G=>Wk.refl _,fun _ _=>rfl⟩
  ·exact ⟨hI,fun G=>Wk.refl _,fun _ _=>rfl⟩
 ·exact ⟨hI,fun G=>Wk.refl _,fun _ _=>rfl⟩
theorem nilRs_ok:∀ {rs:List (Nat×VP)} {τ:TSt},Inv P τ→Inv P (nilRs n rs τ)∧(∀ G,Wk G (img n τ) (img n (nilRs n rs τ)))∧∀ r,r∉rs.map (·.1)→lookT (nilRs n rs τ).r r=lookT τ.r r
 | [],τ,hI=>⟨hI,fun G=>Wk.refl _,fun _ _=>rfl⟩
 | (t,v)::rs,τ,hI=>by
  have key:(nilRs n ((t,v)::rs) τ=nilRs n rs (nilR n τ t))∨nilRs n ((t,v)::rs) τ=nilRs n rs τ:=by
   cases v with
   | one c=>cases c<;>first|exact .inl rfl|exact .inr rfl
   | pk t=>exact .inr rfl
  rcases key with e|e
  ·rw [e];obtain ⟨h1,h2,h3⟩:=nilR_ok (n:=n) hI t;obtain ⟨k1,k2,k3⟩:=nilRs_ok (rs:=rs) h1;refine ⟨k1,fun G=>(h2 G).trans (k2 G),fun r hr => ?_⟩;simp only [List.map_cons,List.mem_cons,not_or] at hr;rw [k3 r hr.2,h3 r hr.1]
  ·rw [e];obtain ⟨k1,k2,k3⟩:=nilRs_ok (rs:=rs) hI;refine ⟨k1,k2,fun r hr => ?_⟩;simp only [List.map_cons,List.mem_cons,not_or] at hr;exact k3 r hr.2
theorem expF_tidy:∀ (fg:List BP) (i:Nat) {τ:TSt},Inv P τ→Tidy P n τ (expF fg i τ)
 | [],i,τ,hI=>Tidy.refl hI
 | p::r,i,τ,hI=>by
  have h1:=rowExp_tidy (n:=n) hI i;cases p with
  | var w l =>
   simp only [expF];split
   ·exact h1.trans (expF_tidy r (i+1) h1.inv)
   ·exact expF_tidy r (i+1) hI
  | hole t l =>
   simp only [expF];split
   ·exact h1.trans (expF_tidy r (i+1) h1.inv)
   ·exact expF_tidy r (i+1) hI
  | _=>exact expF_tidy r (i+1) hI
theorem fgN_tidy {τ:TSt} (hI:Inv P τ) (fg:List BP) (fz lv:List Nat):Tidy P n τ (fgN n fg fz lv τ):=by
 cases fg with
 | nil=>exact Tidy.refl hI
 | cons a r =>
  have h0:=expF_tidy (n:=n) (a::r) 0 hI;have h:=fgt_tidy (n:=n) h0.inv (a::r);exact h0.trans (h.trans (norm_tidy (n:=n) h.inv fz lv))
theorem exP_ok {τ τ':TSt} {W:List Nat} {p:Port} {v:DenOs p.T.ty} (hI:Inv P τ') (hN:NormW W (lookT τ.r) (lookT τ'.r)) (hr:rsOk W τ.r p.T.rs=true) (h:exP n p (fxs W τ.r p.lv) τ'=some v) :
  ∃ τ1,enP p (fxs W τ.r p.lv) v=some τ1∧Inv P τ1∧(∀ G,Wk G (img n τ') (img n τ1))∧NormW W (lookT τ.r) (lookT τ1.r):=by
 unfold exP at h;simp only at h;split at h
 ·rename_i ha;split at h
  ·rename_i l hx;have hv:=mkOs_ok h;obtain ⟨n1,n2,n3⟩:=nilRs_ok (n:=n) (rs:=p.T.rs) hI;have ht0:=norm_tidy (n:=n) n1 p.fz p.lv;have ht:=ht0.trans (fgN_tidy (n:=n) ht0.inv p.T.fg p.fz p.lv);obtain ⟨_,τ2,f2,i2,s2,r2,k2⟩:=exT_ok ht.inv hx;have hfx:∀ e∈fxs W τ.r p.lv,lookT (fgN n p.T.fg p.fz p.lv (norm n p.fz p.lv (nilRs n p.T.rs τ'))).r e.1=e.2:=by
    intro e he;obtain ⟨e1,e2,e3,e4⟩:=fxs_mem he;have hne:=hasAll_ok ha e he;have hnr:e.1∉p.T.rs.map (·.1):=fun hm=>by
     rcases rsOk_ok hr e.1 hm with k|k
     ·exact e4 k
     ·rw [e1,e2] at k;cases k
    have k0:=n3 e.1 hnr;rcases hN e.1 with k|k|k|k
    ·exact (e4 k).elim
    ·rcases ht.nr e.1 with q|q|q
     ·rw [q,k0,k,e1]
     ·exact (hne q).elim
     ·rw [k0,k,e1,e2] at q;cases q
    ·rcases ht.nr e.1 with q|q|q
     ·rw [q,k0,k] at hne;exact (hne rfl).elim
     ·exact (hne q).elim
     ·rw [k0,k] at q;cases q
    ·rw [e1,e2] at k;cases k
   refine ⟨⟨τ2.r++fxs W τ.r p.lv,τ2.h,τ2.g⟩,by simp only [enP,hv,f2],⟨fun e he c hc => ?_,i2.blks⟩,fun G=>(n2 G).trans ((ht.wk G).trans ?_),fun t => ?_⟩
   ·rcases lma.1 he with he|he
    ·exact i2.regs e he c hc
    ·have h1:=hfx e he;have h2:=(fxs_mem he).2.1;refine pureV_cok (h:=(fgN n p.T.fg p.fz p.lv (norm n p.fz p.lv (nilRs n p.T.rs τ'))).h) (g:=(fgN n p.T.fg p.fz p.lv (norm n p.fz p.lv (nilRs n p.T.rs τ'))).g) h2 (fun c hc => ?_) c hc;rcases lookT_mem (fgN n p.T.fg p.fz p.lv (norm n p.fz p.lv (nilRs n p.T.rs τ'))).r e.1 with k|⟨z,hz,q1,q2⟩
     ·rw [h1] at k;rw [k] at hc;simp [TV.cs] at hc
     ·rw [h1] at q2;rw [q2] at hc;exact ht.inv.regs z hz c hc
   ·have hh:img n ⟨τ2.r++fxs W τ.r p.lv,τ2.h,τ2.g⟩={ img n (fgN n p.T.fg p.fz p.lv (norm n p.fz p.lv (nilRs n p.T.rs τ'))) with env:=⟨(img n (fgN n p.T.fg p.fz p.lv (norm n p.fz p.lv (nilRs n p.T.rs τ')))).env.n,(τ2.r++fxs W τ.r p.lv).map fun e=>(e.1,e.2.rv)⟩ }:=by
     simp only [img,s2]
    rw [hh];refine Wk.regs _ fun e he => ?_
    obtain ⟨z,hz,rfl⟩:=List.mem_map.1 he;have h0:=img_reg (n:=n) (τ:=fgN n p.T.fg p.fz p.lv (norm n p.fz p.lv (nilRs n p.T.rs τ'))) z.1;refine Eq.trans h0 ?_;rcases lma.1 hz with hz|hz
    ·exact r2 z hz
    ·rw [hfx z hz]
   ·show t∈W∨lookT (τ2.r++fxs W τ.r p.lv) t=_∨lookT (τ2.r++fxs W τ.r p.lv) t=_∨_;rcases lookT_app τ2.r (fxs W τ.r p.lv) t with ⟨h1,h2⟩|⟨h1,h2⟩
    ·rw [k2] at h1;rcases rsOk_ok hr t h1 with k|k
     ·exact .inl k
     ·exact .inr (.inr (.inr k))
    ·rw [h2];rcases lookT_mem (fxs W τ.r p.lv) t with k|⟨z,hz,q1,q2⟩
     ·exact .inr (.inr (.inl k))
     ·refine .inr (.inl ?_);rw [q2,←(fxs_mem hz).1,q1]
  ·cases h
 ·cases h
theorem unpacks_ok {τ τ':TSt} {W:List Nat} {R:Type} {K:Exit→TSt→Option R} {r:R} (hI:Inv P τ') (hN:NormW W (lookT τ.r) (lookT τ'.r)) {e:Exit} :
  ∀ {ps:List (Exit×Port)} {o:OutT ps},rsOks W τ.r ps=true→packs n W τ.r ps e τ'=some o→unpacks W τ.r K ps o=some r →
  ∃ τ1,Inv P τ1∧(∀ G,Wk G (img n τ') (img n τ1))∧NormW W (lookT τ.r) (lookT τ1.r)∧K e τ1=some r
 | [],o,_,h,_=>by cases h
 | [(e',p)],o,hr,h,k=>by
  simp only [rsOks,bae] at hr;simp only [packs] at h;split at h
  ·rename_i he;have:=exKB_eq he;subst this;obtain ⟨τ1,h1,h2,h3,h4⟩:=exP_ok hI hN hr.1 h;simp only [unpacks,h1] at k;exact ⟨τ1,h2,h3,h4,k⟩
  ·cases h
 | (e',p)::q::ps,o,hr,h,k=>by
  have hr':rsOk W τ.r p.T.rs=true∧rsOks W τ.r (q::ps)=true:=by
   rw [show rsOks W τ.r ((e',p)::q::ps)=(rsOk W τ.r p.T.rs&&rsOks W τ.r (q::ps)) from rfl,bae] at hr;exact hr
  simp only [packs] at h;split at h
  ·rename_i he;have:=exKB_eq he;subst this;split at h
   ·rename_i v hv;injection h with h;subst h;obtain ⟨τ1,h1,h2,h3,h4⟩:=exP_ok hI hN hr'.1 hv;simp only [unpacks,cs,h1] at k;exact ⟨τ1,h2,h3,h4,k⟩
   ·cases h
  ·split at h
   ·rename_i o' ho;injection h with h;subst h;simp only [unpacks,cs] at k;exact unpacks_ok hI hN hr'.2 ho k
   ·cases h
def Aft (P:Program) (n:Nat) (W:List Nat) (f:Nat→TV) {R:Type} (K:Exit→TSt→Option R) (r:R) (e:Exit) (σ:St):Prop :=
 ∃ τ',σ=img n τ'∧Inv P τ'∧NormW W f (lookT τ'.r)∧K e τ'=some r
theorem wrOps_take:∀ (l:List (AOp×Option Ty)) (m:Nat),∀ t∈wrOps (l.take m),t∈wrOps l
 | [],m,t,h=>by simpa using h
 | (x,et)::l,0,t,h=>by simp [wrOps] at h
 | (x,et)::l,m+1,t,h=>by
  simp only [List.take_succ_cons,wrOps] at h ⊢;cases hd:x.d with
  | none=>rw [hd] at h;exact wrOps_take l m t h
  | some d =>
   rw [hd] at h;rcases List.mem_cons.1 h with rfl|h
   ·simp
   ·exact List.mem_cons_of_mem _ (wrOps_take l m t h)
theorem wrOps_drop:∀ (l:List (AOp×Option Ty)) (m:Nat),∀ t∈wrOps (l.drop m),t∈wrOps l
 | [],m,t,h=>by simpa using h
 | (x,et)::l,0,t,h=>h
 | (x,et)::l,m+1,t,h=>by
  simp only [List.drop_succ_cons] at h;have:=wrOps_drop l m t h;simp only [wrOps];cases x.d<;>simp [this]
theorem trun_ok (hm:P.follows .mixedOrders=true):∀ (x:TCd) {τ:TSt} {R:Type} {K:Exit→TSt→Option R} {r:R},Inv P τ→trun tab n x τ K=some r→TA P G [] n x.ac (img n τ) (Aft P n x.wr (lookT τ.r) K r)
 | .skip,τ,R,K,r,hI,h=>TA.skip ⟨τ,rfl,hI,NormW.refl _ _,h⟩
 | .ret,τ,R,K,r,hI,h=>TA.ret ⟨τ,rfl,hI,NormW.refl _ _,h⟩
 | .exit i,τ,R,K,r,hI,h=>TA.exit ⟨τ,rfl,hI,NormW.refl _ _,h⟩
 | .bad,τ,R,K,r,hI,h=>by cases h
 | .reg ops lv fz,τ,R,K,r,hI,h=>by
  simp only [trun] at h;have h9:=frzAll_tidy (n:=n) fz hI;refine TA.wk (h9.wk G) (TA.post (TA.reg rfl ?_));refine regK_mono (fun σ' hq => ?_) (regT_ok (n:=n) hm (NormW.stable _ (lookT τ.r)) (fun t=>.inr (h9.nr t)) h9.inv (fun _ _ e=>by cases e) h);obtain ⟨τ',rfl,h2,h3,h4⟩:=hq;have ht:=norm_tidy (n:=n) h2 [] lv;exact ⟨_,ht.wk G,_,rfl,ht.inv,NormW.trans h3 fun t=>.inr (ht.nr t),h4⟩
 | .dreg ord ops lv fz,τ,R,K,r,hI,h=>by
  simp only [trun] at h;have h9:=frzAll_tidy (n:=n) fz hI;have h0:=dregT_ok (n:=n) [] (NormW.stable _ (lookT τ.r)) (fun t=>.inr (h9.nr t)) h9.inv (fun _ _ e=>by cases e) h;have hoo:okOrd ord=true:=by
   obtain ⟨ts,hq,_⟩:=dreg_text h0;obtain ⟨τ',_,_,_,h4⟩:=hq;split at h4
   ·rename_i ho;rw [bae] at ho;exact ho.1
   ·cases h4
  refine TA.wk (h9.wk G) (TA.post (TA.dreg (ops.length+1) hm rfl hoo ?_));refine dregK_mono (fun ts hq => ?_) h0;obtain ⟨τ',h1,⟨h2,_⟩,h3,h4⟩:=hq;split at h4
  ·rename_i ho;rw [bae] at ho;have ht:=norm_tidy (n:=n) h2 [] lv;have h1':runP (fun _=>true) ts (img n (frzAll n fz τ))=img n τ':=h1;exact ⟨ho.2,_,by rw [h1'];exact ht.wk G,_,rfl,ht.inv,NormW.trans h3 fun t=>.inr (ht.nr t),h4⟩
  ·cases h4
 | .dregS ord ops m lv fz,τ,R,K,r,hI,h=>by
  simp only [trun] at h;have h9:=frzAll_tidy (n:=n) fz hI;have w1:∀ t∈wrOps (ops.take m),t∈wrOps ops:=wrOps_take ops m;have w2:∀ t∈wrOps (ops.drop m),t∈wrOps ops:=wrOps_drop ops m;have h0:=dregN_ok (n:=n) [] ((NormW.stable (wrOps ops) (lookT τ.r)).sub w1) (fun t=>.inr (h9.nr t)) h9.inv (fun _ _ e=>by cases e) h;have e1:opsOf (ops.take m)=(opsOf ops).take m:=by simp only [opsOf,List.map_take]
  have e2:opsOf (ops.drop m)=(opsOf ops).drop m:=by simp only [opsOf,List.map_drop]
  have hoo:okOrd ord=true∧okSuf (ops.length+1) ord m=true∧m≤(opsOf ops).length:=by
   obtain ⟨ts,hq,_⟩:=dreg_text h0;obtain ⟨τ',_,_,_,_,_,h4⟩:=hq;split at h4
   ·rename_i ho;rw [bae,bae,bae] at ho;exact ⟨ho.1.1,ho.2.1,by simp only [opsOf,List.length_map];exact Nat.le_of_ble_eq_true ho.2.2⟩
   ·cases h4
  rw [e1] at h0;refine TA.wk (h9.wk G) (TA.post (TA.dregS (ops.length+1) m hm rfl hoo.1 hoo.2.1 hoo.2.2 ?_));refine dregK_mono (fun ts hq => ?_) h0;obtain ⟨τ',kn',h1,⟨h2,_⟩,h3,hkn',h4⟩:=hq;split at h4
  ·rename_i ho;rw [bae,bae,bae] at ho;have h1':runP (fun _=>true) ts (img n (frzAll n fz τ))=img n τ':=h1;refine ⟨ho.1.2,?_⟩;rw [h1',←e2];refine regK_mono (fun σ' hq => ?_) (regT_ok (n:=n) hm ((NormW.stable (wrOps ops) (lookT τ.r)).sub w2) h3 h2 hkn' h4);obtain ⟨τ'',rfl,k2,k3,k4⟩:=hq;have ht:=norm_tidy (n:=n) k2 [] lv;exact ⟨_,ht.wk G,_,rfl,ht.inv,NormW.trans k3 fun t=>.inr (ht.nr t),k4⟩
  ·cases h4
 | .unr k x,τ,R,K,r,hI,h=>by
  simp only [trun] at h;refine TA.unr (m:=k) ?_;have key:∀ (m:Nat) {τ1:TSt},Inv P τ1→NormW x.wr (lookT τ.r) (lookT τ1.r)→unr m (trun tab n x) τ1 K=some r→unrP P G [] n x.ac (Aft P n (TCd.unr k x).wr (lookT τ.r) K r) m (img n τ1):=by
   intro m;induction m with
   | zero=>intro τ1 _ _ h;cases h
   | succ m ih =>
    intro τ1 hI1 hN1 h;simp only [unr] at h;refine (trun_ok hm x hI1 h).mono fun e σ hq => ?_
    obtain ⟨τ',rfl,hI',hN,hk⟩:=hq;have hN2:NormW x.wr (lookT τ.r) (lookT τ'.r):=hN1.trans hN;cases e with
    | normal=>exact ih hI' hN2 hk
    | _=>exact ⟨τ',rfl,hI',hN2,hk⟩
  exact key k hI (fun _=>.inr (.inl rfl)) h
 | .seq x y,τ,R,K,r,hI,h=>by
  simp only [trun] at h;refine TA.seq ((trun_ok hm x hI h).mono fun e σ hq => ?_);obtain ⟨τ',rfl,hI',hN,hk⟩:=hq;have hN':NormW (TCd.seq x y).wr (lookT τ.r) (lookT τ'.r):=hN.sub fun t ht=>List.mem_append_left _ ht
  cases e with
  | normal =>
   refine (trun_ok hm y hI' hk).mono fun e σ hq => ?_
   obtain ⟨τ'',rfl,hI'',hN2,hk⟩:=hq;exact ⟨τ'',rfl,hI'',hN'.trans (hN2.sub fun t ht=>List.mem_append_right _ ht),hk⟩
  | _=>exact ⟨τ',rfl,hI',hN',hk⟩
 | .cond c x y,τ,R,K,r,hI,h=>by
  simp only [trun] at h;split at h
  ·rename_i v hv;obtain ⟨e0,_⟩:=ev1_ok (n:=n) hI hv (by simp);have hl:∀ e σ,Aft P n x.wr (lookT τ.r) K r e σ→Aft P n (TCd.cond c x y).wr (lookT τ.r) K r e σ:=fun e σ ⟨τ',a,b,c,d⟩=>⟨τ',a,b,c.sub fun t ht=>List.mem_append_left _ ht,d⟩
   have hr:∀ e σ,Aft P n y.wr (lookT τ.r) K r e σ→Aft P n (TCd.cond c x y).wr (lookT τ.r) K r e σ:=fun e σ ⟨τ',a,b,c,d⟩=>⟨τ',a,b,c.sub fun t ht=>List.mem_append_right _ ht,d⟩
   rcases cnd_some h with ⟨rfl,h⟩|⟨rfl,h⟩
   ·exact TA.cond e0 (fun _=>(trun_ok hm x hI h).mono hl) fun e=>by cases e
   ·exact TA.cond e0 (fun e=>by cases e) fun _=>(trun_ok hm y hI h).mono hr
  ·cases h
 | .block i x,τ,R,K,r,hI,h=>by
  simp only [trun] at h;refine TA.block ((trun_ok hm x hI h).mono fun e σ hq => ?_);obtain ⟨τ',rfl,hI',hN,hk⟩:=hq;cases e with
  | exit j =>
   simp only [blk];simp only at hk;split at hk
   ·rename_i hb;rw [if_pos (nbe hb)];exact ⟨τ',rfl,hI',hN,hk⟩
   ·rename_i hb;rw [if_neg fun e=>by subst e;rw [Nat.beq_refl] at hb;cases hb];exact ⟨τ',rfl,hI',hN,hk⟩
  | _=>exact ⟨τ',rfl,hI',hN,hk⟩
 | .gh l x,τ,R,K,r,hI,h=>by
  simp only [trun] at h;obtain ⟨τ1,t1,h⟩:=ghS_ok (n:=n) hI h;refine TA.wk (t1.wk G) ((trun_ok hm x t1.inv h).mono fun e σ hq => ?_);obtain ⟨τ',h1,h2,h3,h4⟩:=hq;exact ⟨τ',h1,h2,NormW.trans (fun t=>.inr (t1.nr t)) h3,h4⟩
 | .join ps x,τ,R,K,r,hI,h=>by
  simp only [trun] at h;split at h
  ·rename_i hr;obtain ⟨o,ho,h⟩:=bd_some h;refine TA.post ((trun_ok hm x hI ho).mono fun e σ hq => ?_);obtain ⟨τ',rfl,hI',hN,hk⟩:=hq;obtain ⟨τ1,k1,k2,k3,k4⟩:=unpacks_ok hI' hN hr hk h;exact ⟨_,k2 G,τ1,rfl,k1,k3,k4⟩
  ·cases h
 | .loop p ps x,τ,R,K,r,hI,h=>by
  simp only [trun] at h;split at h
  ·rename_i hr;rw [bae] at hr;split at h
   ·rename_i v0 hv0;obtain ⟨o,ho,h⟩:=bd_some h;obtain ⟨m,hm0⟩:=iter_some ho;obtain ⟨τ0,a1,a2,a3,a4⟩:=exP_ok hI (NormW.refl _ _) hr.1 hv0;refine TA.wk (a3 G) (TA.loop (fun m σ=>∃ v τ1,enP p (fxs x.wr τ.r p.lv) v=some τ1∧σ=img n τ1∧Inv P τ1∧NormW x.wr (lookT τ.r) (lookT τ1.r)∧iterN _ m v=some o) ⟨v0,τ0,a1,rfl,a2,a4,hm0⟩ fun m σ hi => ?_);obtain ⟨v,τ1,b1,rfl,b2,b3,b4⟩:=hi;cases m with
    | zero=>cases b4
    | succ m =>
     simp only [iterN,b1] at b4;split at b4
     ·rename_i v' hx;refine TA.post ((trun_ok hm x b2 hx).mono fun e σ hq => ?_);obtain ⟨τ',rfl,hI',hN,hk⟩:=hq;cases e with
      | normal =>
       simp only at hk;split at hk
       ·rename_i v2 hv2;injection hk with hk;injection hk with hk;subst hk;obtain ⟨τ2,c1,c2,c3,c4⟩:=exP_ok hI' (b3.trans hN) hr.1 hv2;exact ⟨_,c3 G,m,Nat.lt_succ_self m,v2,τ2,c1,rfl,c2,c4,b4⟩
       ·cases hk
      | _ =>
       simp only at hk;split at hk
       ·injection hk with hk;cases hk
       ·cases hk
     ·rename_i o' hx;injection b4 with b4;subst b4;refine TA.post ((trun_ok hm x b2 hx).mono fun e σ hq => ?_);obtain ⟨τ',rfl,hI',hN,hk⟩:=hq;cases e with
      | normal =>
       simp only at hk;split at hk
       ·injection hk with hk;cases hk
       ·cases hk
      | _ =>
       simp only at hk;split at hk
       ·rename_i o2 ho2;injection hk with hk;injection hk with hk;subst hk;obtain ⟨τ2,c1,c2,c3,c4⟩:=unpacks_ok hI' (b3.trans hN) hr.2 ho2 h;exact ⟨_,c2 G,τ2,rfl,c1,c3,c4⟩
       ·cases hk
     ·cases b4
   ·cases h
  ·cases h
end
end Go.Proofs.YteecakkojdhmaaaGreatA.AS
