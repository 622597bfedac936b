/- A part of the proof that FnExactFloDone holds: an abstract machine, typed evaluation, and that both are sound. -/
import Derived.Test.YtjebjgahkakepaaGreatAs3
import Derived.ChangeArms
import Derived.DataReads
import GoSem.ClaimJoined
set_option linter.unusedVariables false
set_option linter.unusedSimpArgs false
namespace Go.Proofs.YtjebjgahkakepaaGreatA.AS
mutual
inductive TyOk (P:Program):Ty→TypeId→Prop
 | int {k:IntKind} {t:TypeId} (h:P.underlying t=some (.int k)):TyOk P (.int k) t
 | bool {t:TypeId} (h:P.underlying t=some .bool):TyOk P .bool t
 | sl {T:Ty} {t e:TypeId} (h:P.underlying t=some (.slice e)) (hk:P.cellsOf e=T.sz) (hb:1≤P.bytesOf e) (hT:TyOk P T e):TyOk P (.sl T) t
 | st {T:Ty} {t:TypeId} {fs:Array Field} (h:P.underlying t=some (.struct fs)) (hc:P.cellsOf t=T.sz) (hf:FldOk P T fs.toList 0):TyOk P T t
inductive FldOk (P:Program):Ty→List Field→Nat→Prop
 | one {T:Ty} {f:Field} {o:Nat} (ho:f.offset=o) (hk:P.cellsOf f.type=T.sz) (h:TyOk P T f.type):FldOk P T [f] o
 | cons {a b:Ty} {f:Field} {r:List Field} {o:Nat} (ho:f.offset=o) (hk:P.cellsOf f.type=a.sz) (h:TyOk P a f.type) (hr:FldOk P b r (o+a.sz)):FldOk P (.pr a b) (f::r) o
end
def bndT:(T:Ty)→Den T→Prop
 | .sl t,l=>l.length≤140737488355328∧∀ x,x∈l→bndT t x
 | .pr a b,v=>bndT a v.1∧bndT b v.2
 | _,_=>True
section
variable {P:Program} {H:Type} {en:TypeId×Value→H} {w:World} {base:Nat} {spare:Nat→Bool} {held:Bool} {M:Nat→Prop} {X:Ctx}
theorem al2_len {α β:Type} {R:α→β→Prop} {l:List α} {m:List β} (h:All2 R l m):l.length=m.length:=by
 induction h with
 | nil=>rfl
 | cons _ _ ih=>simp [ih]
theorem al2_get {α β:Type} {R:α→β→Prop} {l:List α} {m:List β} (h:All2 R l m):∀ (j:Nat) (p:α) (u:β),l[j]? = some p→m[j]? = some u→R p u:=by
 induction h with
 | nil=>intro j p u h;simp at h
 | cons h _ ih =>
  intro j p u h1 h2
  cases j with
  | zero=>simp at h1 h2;subst h1 h2;exact h
  | succ j=>exact ih j p u (by simpa using h1) (by simpa using h2)
abbrev Rd (w:World) (M:Nat→Prop) (X:Ctx) (T:Ty) (x:Den T) (cs:List Value):Prop:=All2 (fun p u=>RC w M X p u []) ((enc T x).map PV.sh) cs
theorem weightsAll_le {e:TypeId} {b:Nat}:∀ {l:List (DataW H)},(∀ n∈DataW.weightsAll P e l,n≤b)→∀ d∈l,∀ n∈d.weights P e,n≤b
 | [],_,d,hd=>by cases hd
 | c::r,h,d,hd=>by
  simp only [DataW.weightsAll,List.mem_append] at h
  rcases List.mem_cons.1 hd with rfl|hd
  ·exact fun n hn=>h n (.inl hn)
  ·exact weightsAll_le (fun n hn=>h n (.inr hn)) d hd
def IHof (P:Program) (en:TypeId×Value→H) (w:World) (base:Nat) (spare:Nat→Bool) (held:Bool) (M:Nat→Prop) (X:Ctx) (n:Nat):Prop :=
 ∀ (T:Ty) (t:TypeId) (cs:List Value) (y:DataW H×List MemPlace),TyOk P T t→DataW.trod en P w base spare held n t cs=some y→(∀ k∈y.1.weights P t,k≤140737488355328)→∃ x:Den T,bndT T x∧Rd w M X T x cs
theorem fld_ok {n:Nat} (ih:IHof P en w base spare held M X n):∀ {T:Ty} {fs:List Field} {o:Nat},FldOk P T fs o→∀ (cs:List Value) (xs:List (DataW H×List MemPlace)),xs.length=fs.length →
  (∀ (i:Nat) (f:Field),fs[i]? = some f→DataW.trod en P w base spare held n f.type ((cs.drop f.offset).take (P.cellsOf f.type))=xs[i]?)→(∀ k∈DataW.weightsEach P (fs.map (·.type)) (xs.map (·.1)),k≤140737488355328) →
  ∃ x:Den T,bndT T x∧Rd w M X T x ((cs.drop o).take T.sz)
 | T,[f],o,.one ho hk h,cs,xs,hl,hx,hw=>by
  match xs,hl with
  | [y],_ =>
   have h0:=hx 0 f rfl
   rw [ho,hk] at h0
   exact ih T f.type _ y h h0 (fun k hk'=>hw k (by simp [DataW.weightsEach,hk']))
 | .pr a b,f::r,o,.cons ho hk h hr,cs,xs,hl,hx,hw=>by
  match xs,hl with
  | y::ys,hl =>
   have h0:=hx 0 f rfl
   rw [ho,hk] at h0
   have hw':∀ k,(k∈y.1.weights P f.type∨k∈DataW.weightsEach P (r.map (·.type)) (ys.map (·.1)))→k≤140737488355328:=fun k hk'=>hw k (by simp only [List.map_cons,DataW.weightsEach,List.mem_append];exact hk')
   obtain ⟨x1,b1,r1⟩:=ih a f.type _ y h h0 (fun k hk'=>hw' k (.inl hk'))
   obtain ⟨x2,b2,r2⟩:=fld_ok ih hr cs ys (by simpa using hl) (fun i g hg=>by have:=hx (i+1) g (by simpa using hg);simpa using this) (fun k hk'=>hw' k (.inr hk'))
   refine ⟨(x1,x2),⟨b1,b2⟩,?_⟩
   have e:(cs.drop o).take (a.sz+b.sz)=(cs.drop o).take a.sz++(cs.drop (o+a.sz)).take b.sz:=by
    rw [List.take_add,List.drop_drop]
   show All2 _ ((enc a x1++enc b x2).map PV.sh) ((cs.drop o).take (a.sz+b.sz))
   rw [e,List.map_append]
   exact r1.app r2
theorem ix_add (a:Addr) (i j:Nat):(a.add i).add j=a.add (i+j):=addr_add_add _ _ _
theorem rd_ok (hM:∀ g,¬ M g):∀ n:Nat,IHof P en w base spare held M X n:=by
 intro n
 induction n with
 | zero=>intro T t cs y hT h;simp [DataW.trod] at h
 | succ n ih =>
  intro T t cs y hT h hw
  cases hT with
  | @int k _ hu =>
   obtain ⟨v,rfl,_,_⟩:=DataW.trod_int hu h
   exact ⟨v,trivial,.cons .i .nil⟩
  | bool hu =>
   have hb:∃ b,cs=[.bool b]:=by
    unfold DataW.trod at h
    rw [hu] at h
    split at h<;>simp_all
   obtain ⟨b,rfl⟩:=hb
   exact ⟨b,trivial,.cons .b .nil⟩
  | @st _ _ fs hu hc hf =>
   obtain ⟨xs,m,hm,rfl,hl,hlen,hx⟩:=DataW.trod_struct hu h
   injection hm with hm;subst hm
   obtain ⟨x,b,r⟩:=fld_ok ih hf cs xs (by simpa using hlen) (fun i f hf'=>hx i f (by simpa using hf')) (fun k hk=>hw k (by simp only [DataW.weights,hu];exact hk))
   rw [List.drop_zero,←hc,←hl,List.take_length] at r
   exact ⟨x,b,r⟩
  | @sl T _ e hu hk hb hT =>
   rcases DataW.trod_slice hu h with ⟨rfl,rfl⟩|⟨a,len,cap,elems,rest,m,hm,rfl,rfl,hba,hlc,hcap,hel,he,_,_⟩
   ·exact ⟨[],⟨by simp,by simp⟩,.cons (RC.ro (l:=[]) (xs:=[]) (by simp) (by simp) rfl (by simp) (by simp)) .nil⟩
   ·injection hm with hm;subst hm
    simp only [DataW.weights,hu] at hw
    have hlen:len≤140737488355328:=by
     have:=hw _ (List.mem_cons_self ..)
     simp only [List.length_map,hel] at this
     have h2:len*1≤(len+rest.length)*P.bytesOf e:=Nat.mul_le_mul (by omega) hb
     omega
    have hwe:=weightsAll_le (P:=P) (e:=e) (l:=elems.map (·.1)) (fun k hk'=>hw k (by simp only [List.mem_cons,List.mem_append];exact .inr (.inl hk')))
    have key:∀ m,m≤len→∃ (l:List (Den T)) (xs:List Value),l.length=m∧(∀ x,x∈l→bndT T x)∧xs.length=m*T.sz∧(∀ j,j<m*T.sz→w.cell? (a.add j)=xs[j]?)∧All2 (fun p u=>RC w M X p u []) ((l.map (enc T)).flatten.map PV.sh) xs:=by
     intro m
     induction m with
     | zero=>intro _;exact ⟨[],[],rfl,by simp,by simp,by simp,.nil⟩
     | succ m ihm =>
      intro hm
      obtain ⟨l,xs,l1,l2,l3,l4,l5⟩:=ihm (by omega)
      have hi:=he m (by omega)
      rw [hk] at hi
      have hme:m<elems.length:=by omega
      rw [List.getElem?_eq_getElem hme] at hi
      obtain ⟨cs',c1,c2⟩:=Option.bind_eq_some_iff.1 hi
      obtain ⟨_,c3,c4⟩:=World.cells?_some c1
      obtain ⟨x,x1,x2⟩:=ih T e cs' elems[m] hT c2 (hwe _ (List.mem_map.2 ⟨_,List.getElem_mem hme,rfl⟩))
      refine ⟨l++[x],xs++cs',by simp [l1],fun y hy => ?_,by rw [List.length_append,l3,c3,Nat.succ_mul],fun j hj => ?_,?_⟩
      ·rcases List.mem_append.1 hy with hy|hy
       ·exact l2 y hy
       ·rw [List.mem_singleton] at hy;subst hy;exact x1
      ·by_cases hj':j<m*T.sz
       ·rw [List.getElem?_append_left (by omega)];exact l4 j hj'
       ·rw [List.getElem?_append_right (by omega),l3,←c4 (j-m*T.sz) (by rw [Nat.succ_mul] at hj;omega),ix_add]
        congr 2;omega
      ·rw [List.map_append,List.flatten_append,List.map_append]
       refine l5.app ?_
       simpa using x2
    obtain ⟨l,xs,l1,l2,l3,l4,l5⟩:=key len (Nat.le_refl _)
    refine ⟨l,⟨by omega,l2⟩,.cons ?_ .nil⟩
    show RC w M X (.vs false T.sz (l.map (enc T))) (.slice (some a) len cap) []
    have e0:len=(l.map (enc T)).length:=by rw [List.length_map,l1]
    have hfl:=al2_len l5
    rw [List.length_map] at hfl
    have:=RC.ro (w:=w) (M:=M) (X:=X) (k:=T.sz) (l:=l.map (enc T)) (A:=some a) (c:=cap) (xs:=xs) (by rw [← e0];exact hlc) (fun c hc=>by obtain ⟨x,_,rfl⟩:=List.mem_map.1 hc;exact enc_len T x) hfl
     (fun j u hu=>⟨a,rfl,hM _,by
      have hj:j<xs.length:=(List.getElem?_eq_some_iff.1 hu).1
      rw [l4 j (by omega)];exact hu⟩)
     (fun j p u hp hu=>al2_get l5 j p.sh u (by rw [List.getElem?_map,hp];rfl) hu)
    rw [← e0] at this
    exact this
open Go.RowKit in
theorem walk_ofT {P:Program} {T:Ty} (ha:T.agg=true) (E:Ent P ⟨[.v T],[.bool],false⟩) (hc:∀ x:Den T,bndT T x→E.f x=some true) (w:World) (xs:List Value)
  (hr:∀ (M:Nat→Prop) (X:Ctx),(∀ g,¬ M g)→∃ x:Den T,bndT T x∧Rd w M X T x xs):Calls P E.id #[.agg xs.toArray] w fun e w'=>e=.returned (.bool true)∧Below w.heap.size w w':=by
 let τ:Nat→Value:=fun _=>.bool true
 let M:Nat→Prop:=fun g=>False∨g∈([]:List (List Nat)).flatten++([]:List (List Nat)).flatten
 obtain ⟨x,hb,hx⟩:=hr M (X0 τ M) (fun g hg=>by simp [M] at hg)
 have hcon0:=E.ok x true trivial (hc x hb)
 have hcon1:Con P E.id [.v (mkR1 T ((enc T x).map PV.sh))] [.one (.b true)]:=hcon0
 have hm:mkR1 T ((enc T x).map PV.sh)=.agg ((enc T x).map PV.sh):=by cases T<;>first|rfl|cases ha
 rw [hm] at hcon1
 obtain ⟨_,hcon⟩:=hcon1
 have harg:ArgsR w M τ [.v (.agg ((enc T x).map PV.sh))] [.agg xs.toArray] [] [] []:=by
  refine .v ⟨xs,rfl,RCs.of_nofp (al2_len hx) fun j p u hp hu=>al2_get hx j p u hp hu⟩ ?_ .nil
  intro p hp
  exact enc_sh_nr T x p hp
 refine Calls.mono (hcon w τ (fun _=>False) _ [] [] [] harg (by simp) (by simp) (by simp) (by simp)) fun e w' hq => ?_
 obtain ⟨u,rfl,hk,us,rf,fw,hu,hres,_⟩:=hq
 cases hres with
 | cons h1 hn t =>
  cases t with
  | nil =>
   refine ⟨?_,kept_below hk⟩
   have:RC w' _ _ (.b true) _ _:=h1
   have hv:=this.b_inv
   rw [hu,hv];rfl
end
def fldB (P:Program) (chk:Ty→TypeId→Bool):Ty→List Field→Nat→Bool
 | T,[f],o=>Nat.beq f.offset o&&(Nat.beq (P.cellsOf f.type) T.sz&&chk T f.type)
 | .pr a b,f::g::r,o=>Nat.beq f.offset o&&(Nat.beq (P.cellsOf f.type) a.sz&&(chk a f.type&&fldB P chk b (g::r) (o+a.sz)))
 | _,_,_=>false
def tyB (P:Program):Nat→Ty→TypeId→Bool
 | 0,_,_=>false
 | n+1,T,t=>match P.underlying t with
  | some (.int k)=>(match T with|.int k'=>kindB k k'|_=>false)
  | some .bool=>(match T with|.bool=>true|_=>false)
  | some (.slice e)=>(match T with|.sl T'=>Nat.beq (P.cellsOf e) T'.sz&&(Nat.ble 1 (P.bytesOf e)&&tyB P n T' e)|_=>false)
  | some (.struct fs)=>Nat.beq (P.cellsOf t) T.sz&&fldB P (tyB P n) T fs.toList 0
  | _=>false
theorem fldB_ok {P:Program} {chk:Ty→TypeId→Bool} (hc:∀ T t,chk T t=true→TyOk P T t):∀ (fs:List Field) (T:Ty) (o:Nat),fldB P chk T fs o=true→FldOk P T fs o
 | [],T,o,h=>by cases T<;>simp [fldB] at h
 | [f],T,o,h=>by
  have h:(Nat.beq f.offset o&&(Nat.beq (P.cellsOf f.type) T.sz&&chk T f.type))=true:=by
   cases T<;>simpa only [fldB] using h
  simp only [Bool.and_eq_true] at h
  exact .one (Nat.eq_of_beq_eq_true h.1) (Nat.eq_of_beq_eq_true h.2.1) (hc _ _ h.2.2)
 | f::g::r,T,o,h=>by
  cases T with
  | pr a b =>
   simp only [fldB,Bool.and_eq_true] at h
   exact .cons (Nat.eq_of_beq_eq_true h.1) (Nat.eq_of_beq_eq_true h.2.1) (hc _ _ h.2.2.1) (fldB_ok hc (g::r) b _ h.2.2.2)
  | _=>simp [fldB] at h
theorem tyB_ok {P:Program}:∀ (n:Nat) (T:Ty) (t:TypeId),tyB P n T t=true→TyOk P T t
 | 0,T,t,h=>by simp [tyB] at h
 | n+1,T,t,h=>by
  unfold tyB at h
  split at h
  ·rename_i k hu
   split at h
   ·have:=kindB_ok h;subst this;exact .int hu
   ·cases h
  ·rename_i hu
   split at h
   ·exact .bool hu
   ·cases h
  ·rename_i e hu
   split at h
   ·simp only [Bool.and_eq_true] at h
    exact .sl hu (Nat.eq_of_beq_eq_true h.1) (Nat.le_of_ble_eq_true h.2.1) (tyB_ok n _ _ h.2.2)
   ·cases h
  ·rename_i fs hu
   simp only [Bool.and_eq_true] at h
   exact .st hu (Nat.eq_of_beq_eq_true h.1) (fldB_ok (fun T t k=>tyB_ok n T t k) _ _ _ h.2)
  ·cases h
theorem agg_of {P:Program} {a b:Ty} {t:TypeId} (hT:TyOk P (.pr a b) t) {w:World} {r:Reach} {base:Nat} {v:Value} (h:Value.okWide P w r base t v):∃ cs:List Value,v=.agg cs.toArray:=by
 cases hT with
 | st hu hc hf =>
  unfold Value.okWide at h
  rw [hu] at h
  obtain ⟨cs,rfl,_⟩:=h
  exact ⟨cs.toList,by simp⟩
theorem arg_of {P:Program} {T:Ty} {t:TypeId} (hT:TyOk P T t) {H:Type} {en:TypeId×Value→H} {w:World} {base:Nat} {spare:Nat→Bool} {held:Bool} {xs:List Value} {d:DataW H} {ps:List MemPlace}
  (h:DataW.Trod en P w base spare held t (.agg xs.toArray) d ps) (hw:∀ k∈d.weights P t,k≤reachBytes) (M:Nat→Prop) (X:Ctx) (hM:∀ g,¬ M g):∃ x:Den T,bndT T x∧Rd w M X T x xs:=by
 obtain ⟨fuel,hf⟩:=h
 have e:(Value.agg xs.toArray).cells.toList=xs:=by simp [Value.cells]
 rw [e] at hf
 exact rd_ok hM fuel T t xs (d,ps) hT hf fun k hk=>Nat.le_trans (hw k hk) (by decide)
end Go.Proofs.YtjebjgahkakepaaGreatA.AS
