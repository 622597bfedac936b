/- A part of the proof that FnFloRecs holds: the law about the plain functions. -/
import Derived.Test.YteecakkojdhmaaaGreatFn1
set_option linter.unusedVariables false
set_option linter.unusedSimpArgs false
namespace Go.Proofs.YteecakkojdhmaaaGreatA.AS
@[simp] theorem bd_s {α β:Type} (a:α) (f:α→Option β):bd (some a) f=f a:=rfl
@[simp] theorem bd_n {α β:Type} (f:α→Option β):bd none f=none:=rfl
@[simp] theorem cnd_t {α:Type} (x y:Option α):cnd true x y=x:=rfl
@[simp] theorem cnd_f {α:Type} (x y:Option α):cnd false x y=y:=rfl
@[simp] theorem cs_l {A B C:Type} (a:A) (f:A→Option C) (g:B→Option C):cs (.inl a) f g=f a:=rfl
@[simp] theorem cs_r {A B C:Type} (a:B) (f:A→Option C) (g:B→Option C):cs (.inr a) f g=g a:=rfl
theorem bd_cnd {α β:Type} (c:Bool) (x y:Option α) (f:α→Option β):bd (cnd c x y) f=cnd c (bd x f) (bd y f):=by cases c<;>rfl
theorem cnd_if {α:Type} (c:Bool) (x y:Option α):cnd c x y=if c=true then x else y:=by cases c<;>rfl
theorem gd_t {α:Type} {c:Prop} [Decidable c] (h:c) (x:Option α):gd c x=x:=by simp [gd,h]
theorem ix_t {α:Type} {l:List α} {n:Nat} (h:n<l.length):ix l (n:Int)=some l[n]:=by
 simp [ix,h]
theorem ix_i {α:Type} {l:List α} {n:Int} (h0:0≤n) (h:n<l.length):ix l n=some (l[n.toNat]'(by omega)):=by
 simp only [ix,h0,if_true];exact List.getElem?_eq_getElem _
theorem w6_id {n:Int} (h0 : -9223372036854775808≤n) (h1:n≤9223372036854775807):w6 n=n:=by
 simp only [w6,IntKind.wrap,IntKind.bits,IntKind.signed];simp;omega
@[simp] theorem cl_e {A B:Type} (f:A→Option B):cl f=f:=cl_eq f
def inR (n lo hi:Int):Bool:=decide (lo≤n)&&decide (n≤hi)
theorem inR_iff {n lo hi:Int}:inR n lo hi=true↔lo≤n∧n≤hi:=by simp [inR]
def Tot {α:Type} (P:α→Prop) (o:Option α):Prop:=∃ x,o=some x∧P x
theorem Tot.sm {α:Type} {P:α→Prop} {x:α} (h:P x):Tot P (some x):=⟨x,rfl,h⟩
theorem Tot.bd {α β:Type} {P:α→Prop} {Q:β→Prop} {o:Option α} {f:α→Option β} (h:Tot P o) (hf:∀ x,P x→Tot Q (f x)):Tot Q (bd o f):=by
 obtain ⟨x,rfl,hx⟩:=h;exact hf x hx
theorem Tot.cnd {α:Type} {P:α→Prop} {c:Bool} {a b:Option α} (h1:c=true→Tot P a) (h2:c=false→Tot P b):Tot P (cnd c a b):=by
 cases c with
 | true=>exact h1 rfl
 | false=>exact h2 rfl
theorem Tot.gd {α:Type} {P:α→Prop} {c:Prop} [Decidable c] {a:Option α} (h:c) (h1:Tot P a):Tot P (gd c a):=by
 rw [gd_t h];exact h1
theorem Tot.ix {α:Type} {P:α→Prop} {l:List α} {n:Int} (h0:0≤n) (h1:n<l.length) (h:∀ x,x∈l→P x):Tot P (ix l n):=by
 rw [ix_i h0 h1];exact ⟨_,rfl,h _ (List.getElem_mem _)⟩
theorem Tot.ixT {α:Type} {l:List α} {n:Int} (h0:0≤n) (h1:n<l.length):Tot (fun x=>x∈l) (AS.ix l n):=Tot.ix h0 h1 fun _ h=>h
theorem Tot.mono {α:Type} {P Q:α→Prop} {o:Option α} (h:Tot P o) (hq:∀ x,P x→Q x):Tot Q o:=by
 obtain ⟨x,rfl,hx⟩:=h;exact ⟨x,rfl,hq x hx⟩
theorem Tot.eq {α:Type} {x:α} {o:Option α}:Tot (fun y=>y=x) o↔o=some x:=⟨fun ⟨y,h,e⟩=>by rw [h,e],fun h=>⟨x,h,rfl⟩⟩
def Stp {A B:Type} (I:A→Prop) (μ:A→Nat) (Q:B→Prop) (a:A):A⊕B→Prop
 | .inl a'=>I a'∧μ a'<μ a
 | .inr b=>Q b
theorem Tot.iter {A B:Type} {f:A→Option (A⊕B)} (I:A→Prop) (μ:A→Nat) {Q:B→Prop} (hs:∀ a,I a→Tot (Stp I μ Q a) (f a)) {a:A} (h0:I a):Tot Q (iter f a):=by
 have key:∀ n a,μ a<n→I a→Tot Q (AS.iter f a):=by
  intro n;induction n with
  | zero=>intro a h;omega
  | succ n ih =>
   intro a hm hI;obtain ⟨r,hr,hq⟩:=hs a hI;rw [iter_eq,hr];cases r with
   | inl a'=>exact ih a' (by have:=hq.2;omega) hq.1
   | inr b=>exact ⟨b,rfl,hq⟩
 exact key _ a (Nat.lt_succ_self _) h0
theorem drop_i {α:Type} {l:List α} {n:Int} (h0:0≤n) (h:n<l.length):∃ x,ix l n=some x∧x∈l∧l.drop n.toNat=x::l.drop (n+1).toNat∧l.take (n+1).toNat=l.take n.toNat++[x]:=by
 refine ⟨_,ix_i h0 h,List.getElem_mem _,?_,?_⟩
 ·have e:(n+1).toNat=n.toNat+1:=by omega
  rw [e];exact List.drop_eq_getElem_cons (by omega)
 ·have e:(n+1).toNat=n.toNat+1:=by omega
  rw [e,List.take_add_one,List.getElem?_eq_getElem (by omega)];rfl
def idxG {α:Type} (q:α→Bool):List α→Int→Int
 | [],_ => -1
 | x::r,i=>if q x then i else idxG q r (i+1)
theorem idxG_ge {α:Type} (q:α→Bool):∀ (l:List α) (i:Int),0≤i→decide (idxG q l i≥0)=l.any q
 | [],i,h=>by simp [idxG]
 | x::r,i,h=>by
  simp only [idxG,List.any_cons];by_cases hq:q x=true
  ·simp [hq,h]
  ·simpa [hq] using idxG_ge q r (i+1) (by omega)
theorem indexF {α:Type} (l:List α) (p:α→Option Bool) (q:α→Bool) (hp:∀ x,x∈l→p x=some (q x)) (hl:l.length<1000000000) :
  bd (iter (A:=Int) (B:=Int⊕PUnit) (fun v1=>cnd (decide (v1<(l.length:Int))) (bd (ix l v1) fun v2=>bd (p v2) fun v3=>cnd v3 (some (.inr (.inl v1))) (some (.inl (w6 (v1+1))))) (some (.inr (.inr ())))) 0) (fun v4=>cs v4 (fun v5=>some v5) fun v6=>some (-1))=some (idxG q l 0):=by
 have h:=Tot.iter (f:=fun v1:Int=>cnd (decide (v1<(l.length:Int))) (bd (ix l v1) fun v2=>bd (p v2) fun v3=>cnd v3 (some (.inr (.inl v1))) (some (.inl (w6 (v1+1))))) (some (.inr (.inr ()))))
  (fun i=>0≤i∧i≤l.length∧idxG q (l.drop i.toNat) i=idxG q l 0) (fun i=>(l.length-i).toNat) (Q:=fun r:Int⊕PUnit=>(match r with|.inl v=>v|.inr _ => -1)=idxG q l 0) (fun i hi => ?_) (a:=0) ⟨by omega,by omega,by simp⟩
 ·obtain ⟨r,hr,hq⟩:=h;rw [hr];cases r with
  | inl v=>simpa using hq
  | inr v=>simpa using hq
 ·obtain ⟨h0,h1,h2⟩:=hi;refine Tot.cnd (fun h => ?_) (fun h => ?_)
  ·have h:i<l.length:=by simpa using h
   obtain ⟨x,e1,e2,e3,_⟩:=drop_i h0 h;rw [e3] at h2;simp only [e1,hp x e2,bd_s];rw [w6_id (by omega) (by omega)];refine Tot.cnd (fun hq=>Tot.sm ?_) (fun hq=>Tot.sm ?_)
   ·simp only [idxG,hq,if_true] at h2;exact h2
   ·simp only [idxG,hq] at h2;refine ⟨⟨by omega,by omega,by simpa using h2⟩,?_⟩;show (l.length-(i+1)).toNat<(l.length-i).toNat;omega
  ·have h:¬ i<l.length:=by simpa using h
   refine Tot.sm ?_;have e:l.drop i.toNat=[]:=List.drop_eq_nil_of_le (by omega);rw [e] at h2;exact h2
@[simp] theorem i_in_e (a b c:Int):i_in (a,b,c)=some (inR a b c):=by
 by_cases h:b≤a<;>simp [i_in,inR,h]
@[simp] theorem s_l1In_e (a b c:Int):s_l1In (a,b,c)=some (inR a b c):=by
 by_cases h:b≤a<;>simp [s_l1In,inR,h]
@[simp] theorem i_tells_e (a:Int):i_tells a=some (inR a 1 4):=by simp [i_tells]
@[simp] theorem i_isTime_e (a:Int):i_isTime a=some (inR a 0 1000):=by simp [i_isTime]
@[simp] theorem i_isKey_e (a:Int):i_isKey a=some (inR a 0 3):=by simp [i_isKey]
def jobOk (j:JobJob):Bool :=
 inR j.1 1 3&&inR j.2.1 1 2&&inR j.2.2.1 1 3&&inR j.2.2.2.1 1 20&&(if j.2.2.1==2 then inR j.2.2.2.2.1 1 j.2.2.2.1&&decide (j.2.2.2.1≤w6 (4*j.2.2.2.2.1)) else j.2.2.2.2.1==0)&&inR j.2.2.2.2.2.1 0 20&&inR j.2.2.2.2.2.2.1 1 4&&inR j.2.2.2.2.2.2.2.2.1 (-9) 9&&inR j.2.2.2.2.2.2.2.2.2 1 4
theorem i_JobOk_e (j:JobJob):i_JobOk j=some (jobOk j):=by
 simp only [i_JobOk,i_in_e,i_tells_e,bd_s,jobOk];cases inR j.1 1 3<;>(try simp);cases inR j.2.1 1 2<;>(try simp);cases inR j.2.2.1 1 3<;>(try simp);cases inR j.2.2.2.1 1 20<;>(try simp);cases hk:(j.2.2.1==(2:Int))<;>(try simp [hk])
 ·simp only [beq_eq_false_iff_ne,ne_eq] at hk;cases (j.2.2.2.2.1==(0:Int))<;>(try simp [hk]);cases inR j.2.2.2.2.2.1 0 20<;>(try simp);cases inR j.2.2.2.2.2.2.1 1 4<;>(try simp);cases inR j.2.2.2.2.2.2.2.2.1 (-9) 9<;>(try simp)
 ·simp only [beq_iff_eq] at hk;simp only [hk,if_true];cases inR j.2.2.2.2.1 1 j.2.2.2.1<;>(try simp);cases decide (j.2.2.2.1≤w6 (4*j.2.2.2.2.1))<;>(try simp);cases inR j.2.2.2.2.2.1 0 20<;>(try simp);cases inR j.2.2.2.2.2.2.1 1 4<;>(try simp);cases inR j.2.2.2.2.2.2.2.2.1 (-9) 9<;>(try simp)
theorem s_JobOk_e (j:JobJob):s_JobOk j=some (jobOk j):=by
 have hd:decide (j.2.2.2.1>w6 (4*j.2.2.2.2.1)) = !decide (j.2.2.2.1≤w6 (4*j.2.2.2.2.1)):=by
  by_cases h:j.2.2.2.1≤w6 (4*j.2.2.2.2.1)
  ·simp [h,show ¬ j.2.2.2.1>w6 (4*j.2.2.2.2.1) by omega]
  ·simp [h,show j.2.2.2.1>w6 (4*j.2.2.2.2.1) by omega]
 simp only [s_JobOk,s_l1In_e,bd_s,jobOk,hd];cases inR j.1 1 3<;>(try simp);cases inR j.2.1 1 2<;>(try simp);cases inR j.2.2.1 1 3<;>(try simp);cases inR j.2.2.2.1 1 20<;>(try simp);cases hk:(j.2.2.1==(2:Int))<;>(try simp [hk,bne])
 ·simp only [beq_eq_false_iff_ne,ne_eq] at hk;cases (j.2.2.2.2.1==(0:Int))<;>(try simp [hk]);cases inR j.2.2.2.2.2.1 0 20<;>(try simp);cases inR j.2.2.2.2.2.2.1 1 4<;>(try simp);cases inR j.2.2.2.2.2.2.2.2.1 (-9) 9<;>(try simp)
 ·simp only [beq_iff_eq] at hk;simp only [hk,if_true];cases inR j.2.2.2.2.1 1 j.2.2.2.1<;>(try simp);by_cases hs:j.2.2.2.1≤w6 (4*j.2.2.2.2.1)
  ·have hs':¬ w6 (4*j.2.2.2.2.1)<j.2.2.2.1:=by omega
   simp [hs,hs'];cases inR j.2.2.2.2.2.1 0 20<;>(try simp);cases inR j.2.2.2.2.2.2.1 1 4<;>(try simp);cases inR j.2.2.2.2.2.2.2.2.1 (-9) 9<;>(try simp)
  ·have hs':w6 (4*j.2.2.2.2.1)<j.2.2.2.1:=by omega
   simp [hs,hs']
def itmOk (x:ItmItem):Bool :=
 if x.1==1 then inR x.2.1 0 60&&inR x.2.2.1 0 3&&inR x.2.2.2.1 (-9) 9&&x.2.2.2.2==0
 else if x.1==2 then (inR x.2.1 1 60||x.2.1==1000)&&x.2.2.1==0&&x.2.2.2.1==0&&x.2.2.2.2==0
 else x.1==3&&x.2.1==0&&x.2.2.1==0&&x.2.2.2.1==0&&inR x.2.2.2.2 1 900
theorem i_ItmOk_e (x:ItmItem):i_ItmOk x=some (itmOk x):=by
 simp only [i_ItmOk,i_in_e,bd_s,bd_cnd,cs_l,cs_r,itmOk];generalize (x.1==(1:Int))=b1,(x.1==(2:Int))=b2,(x.1==(3:Int))=b3,(x.2.1==(0:Int))=b4,(x.2.2.1==(0:Int))=b5,(x.2.2.2.1==(0:Int))=b6,(x.2.2.2.2==(0:Int))=b7,(x.2.1==(1000:Int))=b8,inR x.2.1 0 60=c1,inR x.2.2.1 0 3=c2,inR x.2.2.2.1 (-9) 9=c3,inR x.2.1 1 60=c4,inR x.2.2.2.2 1 900=c5;cases b1
 ·cases b2
  ·cases b3<;>cases b4<;>cases b5<;>cases b6<;>rfl
  ·cases c4<;>cases b8<;>cases b5<;>cases b6<;>rfl
 ·cases c1<;>cases c2<;>cases c3<;>rfl
theorem s_ItmOk_e (x:ItmItem):s_ItmOk x=some (itmOk x):=by
 simp only [s_ItmOk,s_l1In_e,bd_s,bd_cnd,cs_l,cs_r,itmOk];generalize (x.1==(1:Int))=b1,(x.1==(2:Int))=b2,(x.1==(3:Int))=b3,(x.2.1==(0:Int))=b4,(x.2.2.1==(0:Int))=b5,(x.2.2.2.1==(0:Int))=b6,(x.2.2.2.2==(0:Int))=b7,(x.2.1==(1000:Int))=b8,inR x.2.1 0 60=c1,inR x.2.2.1 0 3=c2,inR x.2.2.2.1 (-9) 9=c3,inR x.2.1 1 60=c4,inR x.2.2.2.2 1 900=c5;cases b1
 ·cases b2
  ·cases b3<;>cases b4<;>cases b5<;>cases b6<;>rfl
  ·cases c4<;>cases b8<;>cases b5<;>cases b6<;>rfl
 ·cases c1<;>cases c2<;>cases c3<;>rfl
def logGo:Int→List ItmItem→Bool
 | _,[]=>true
 | g,x::r=>if !itmOk x||x.1==3||(x.1==2&&decide (x.2.1≤g)) then false else logGo (if x.1==2 then x.2.1 else g) r
def isEnd (x:ItmItem):Bool:=(x.1==2)&&((x.2.1==1000)&&((x.2.2.1==0)&&((x.2.2.2.1==0)&&((x.2.2.2.2==0)&&true))))
def logOk (l:List ItmItem):Bool:=inR l.length 1 40&&logGo 0 l&&(match l.getLast? with|some x=>isEnd x|none=>false)
theorem ix_last {α:Type} {l:List α} (h1:1≤l.length) (h2:l.length<1000000):∃ x,l.getLast? = some x∧ix l (w6 ((l.length:Int)-1))=some x:=by
 rw [w6_id (by omega) (by omega)];have:((l.length:Int)-1)=((l.length-1:Nat):Int):=by omega
 rw [this,ix_t (by omega)];exact ⟨_,by rw [List.getLast?_eq_getElem?,List.getElem?_eq_getElem (by omega)],rfl⟩
theorem i_LogOk_e (l:List ItmItem):i_LogOk l=some (logOk l):=by
 simp only [i_LogOk,i_in_e,bd_s,logOk];by_cases h:inR l.length 1 40=true
 ·obtain ⟨h1,h40⟩:=inR_iff.1 h;obtain ⟨x,hx1,hx2⟩:=ix_last (l:=l) (by omega) (by omega);have he:((x.1==2)&&((x.2.1==1000)&&((x.2.2.1==0)&&((x.2.2.2.1==0)&&((x.2.2.2.2==0)&&true)))))=isEnd x:=rfl;simp only [h,hx1,hx2,bd_s,Bool.not_true,cnd_f,he];refine Tot.eq.1 (Tot.bd (Tot.iter (fun s:Int×Int=>0≤s.2∧s.2≤l.length∧logGo s.1 (l.drop s.2.toNat)=logGo 0 l) (fun s=>(l.length-s.2).toNat) (Q:=fun r=>(match r with|.inl b=>b=false∧logGo 0 l=false|.inr _=>logGo 0 l=true)) (fun s hs => ?_) ⟨by simp,by simp,by simp⟩) fun r hr => ?_)
  ·obtain ⟨hs0,hs1,hs2⟩:=hs;refine Tot.cnd (fun hc => ?_) (fun hc => ?_)
   ·have hc:s.2<l.length:=by simpa using hc
    obtain ⟨y,e1,e2,e3,_⟩:=drop_i hs0 hc;rw [e3] at hs2;simp only [e1,bd_s,i_ItmOk_e];rw [w6_id (by omega) (by omega)];simp only [logGo] at hs2;have hm:(l.length-(s.2+1)).toNat<(l.length-s.2).toNat:=by omega
    cases k1:itmOk y<;>cases k2:(y.1==(3:Int))<;>cases k3:(y.1==(2:Int))<;>cases k4:decide (y.2.1≤s.1)<;>simp only [k1,k2,k3,k4,bd_s,cnd_t,cnd_f,cs_l,cs_r,Bool.not_true,Bool.not_false,Bool.or_false,Bool.or_true,Bool.false_or,Bool.true_or,Bool.and_true,Bool.and_false,Bool.false_and,Bool.true_and,if_true,bfe,if_false] at hs2 ⊢<;>(refine Tot.sm ?_;first|exact ⟨rfl,hs2.symm⟩|exact ⟨⟨by show 0≤s.2+1;omega,by show s.2+1≤l.length;omega,hs2⟩,hm⟩)
   ·have hc:¬ s.2<l.length:=by simpa using hc
    have e:l.drop s.2.toNat=[]:=List.drop_eq_nil_of_le (by omega);rw [e] at hs2;exact Tot.sm hs2.symm
  ·cases r with
   | inl b=>obtain ⟨rfl,hg⟩:=hr;exact Tot.sm (by simp [hg])
   | inr b=>exact Tot.sm (by simp [show logGo 0 l=true from hr])
 ·simp [h]
theorem s_LogOk_e (l:List ItmItem):s_LogOk l=some (logOk l):=by
 simp only [s_LogOk,s_l1In_e,bd_s,logOk];by_cases h:inR l.length 1 40=true
 ·obtain ⟨h1,h40⟩:=inR_iff.1 h;obtain ⟨x,hx1,hx2⟩:=ix_last (l:=l) (by omega) (by omega);have he:((x.1==2)&&((x.2.1==1000)&&((x.2.2.1==0)&&((x.2.2.2.1==0)&&((x.2.2.2.2==0)&&true)))))=isEnd x:=rfl;simp only [h,hx1,hx2,bd_s,Bool.not_true,cnd_f,he];cases hx:isEnd x
  ·simp
  simp only [Bool.not_true,cnd_f];refine Tot.eq.1 (Tot.bd (Tot.iter (fun s:Int×Int=>0≤s.2∧s.2≤l.length∧logGo s.1 (l.drop s.2.toNat)=logGo 0 l) (fun s=>(l.length-s.2).toNat) (Q:=fun r=>(match r with|.inl b=>b=false∧logGo 0 l=false|.inr _=>logGo 0 l=true)) (fun s hs => ?_) ⟨by simp,by simp,by simp⟩) fun r hr => ?_)
  ·obtain ⟨hs0,hs1,hs2⟩:=hs;refine Tot.cnd (fun hc => ?_) (fun hc => ?_)
   ·have hc:s.2<l.length:=by simpa using hc
    obtain ⟨y,e1,e2,e3,_⟩:=drop_i hs0 hc;rw [e3] at hs2;simp only [e1,bd_s,s_ItmOk_e];rw [w6_id (by omega) (by omega)];simp only [logGo] at hs2;have hm:(l.length-(s.2+1)).toNat<(l.length-s.2).toNat:=by omega
    cases k1:itmOk y<;>cases k2:(y.1==(3:Int))<;>cases k3:(y.1==(2:Int))<;>cases k4:decide (y.2.1≤s.1)<;>simp only [k1,k2,k3,k4,bd_s,cnd_t,cnd_f,cs_l,cs_r,Bool.not_true,Bool.not_false,Bool.or_false,Bool.or_true,Bool.false_or,Bool.true_or,Bool.and_true,Bool.and_false,Bool.false_and,Bool.true_and,if_true,bfe,if_false] at hs2 ⊢<;>(refine Tot.sm ?_;first|exact ⟨rfl,hs2.symm⟩|exact ⟨⟨by show 0≤s.2+1;omega,by show s.2+1≤l.length;omega,hs2⟩,hm⟩)
   ·have hc:¬ s.2<l.length:=by simpa using hc
    have e:l.drop s.2.toNat=[]:=List.drop_eq_nil_of_le (by omega);rw [e] at hs2;exact Tot.sm hs2.symm
  ·cases r with
   | inl b=>obtain ⟨rfl,hg⟩:=hr;exact Tot.sm (by simp [hg])
   | inr b=>exact Tot.sm (by simp [show logGo 0 l=true from hr])
 ·simp [h]
theorem it_u {A B:Type} (f:A→Option (A⊕B)) (a:A):iter f a=bd (f a) fun r=>cs r (iter f) some:=by
 rw [iter_eq];cases f a with
 | none=>rfl
 | some r=>cases r<;>rfl
theorem w6_1:w6 1=1:=by decide
theorem w6_2:w6 2=2:=by decide
theorem w6_3:w6 3=3:=by decide
abbrev op0:OpState:=(0,[])
abbrev sn0 (S:Nat):CkpSnap:=(op0,List.replicate S 0)
abbrev ckp0 (S T:Nat):CkpState:=(0,false,List.replicate S (-1),List.replicate T false,List.replicate T (op0,[]),0,List.replicate S 0,List.replicate T (sn0 S))
abbrev tsk0 (S:Nat):TskTask:=(List.replicate S ([],0,false),op0,0,0,[],[])
abbrev snk0:FloSink:=([],0,[],[])
abbrev flo0 (j:JobJob) (logs:List (List ItmItem)) (S T:Nat):FloFlow:=(j,logs,List.replicate S (0,0),List.replicate T (tsk0 S),List.replicate T snk0,ckp0 S T)
abbrev floZ:FloFlow:=((0,0,0,0,0,0,0,false,0,0),[],[],[],[],0,false,[],[],[],0,[],[])
def floNew (j:JobJob) (logs:List (List ItmItem)):FloFlow:=if jobOk j&&(logs.length:Int)==j.1 && !(logs.any fun l => !logOk l) then flo0 j logs j.1.toNat j.2.1.toNat else floZ
theorem job_S {j:JobJob} (h:jobOk j=true):(j.1=1∨j.1=2∨j.1=3)∧(j.2.1=1∨j.2.1=2):=by
 simp only [jobOk,inR,bae,dte] at h;omega
theorem cF_OpRow (l:List OpRow) (p:OpRow→Option Bool) (q:OpRow→Bool) (hp:∀ x,x∈l→p x=some (q x)) (hl:l.length<1000000000):g_ContainsFunc_OpRow (l,p)=some (l.any q):=by
 simp only [g_ContainsFunc_OpRow,g_IndexFunc_OpRow,indexF l p q hp hl,bd_s,idxG_ge q l 0 (by omega)]
theorem cF_int (l:List Int) (p:Int→Option Bool) (q:Int→Bool) (hp:∀ x,x∈l→p x=some (q x)) (hl:l.length<1000000000):g_ContainsFunc_int (l,p)=some (l.any q):=by
 simp only [g_ContainsFunc_int,g_IndexFunc_int,indexF l p q hp hl,bd_s,idxG_ge q l 0 (by omega)]
theorem cF_CkpSnap (l:List CkpSnap) (p:CkpSnap→Option Bool) (q:CkpSnap→Bool) (hp:∀ x,x∈l→p x=some (q x)) (hl:l.length<1000000000):g_ContainsFunc_CkpSnap (l,p)=some (l.any q):=by
 simp only [g_ContainsFunc_CkpSnap,g_IndexFunc_CkpSnap,indexF l p q hp hl,bd_s,idxG_ge q l 0 (by omega)]
theorem cF_ItmItem (l:List ItmItem) (p:ItmItem→Option Bool) (q:ItmItem→Bool) (hp:∀ x,x∈l→p x=some (q x)) (hl:l.length<1000000000):g_ContainsFunc_ItmItem (l,p)=some (l.any q):=by
 simp only [g_ContainsFunc_ItmItem,g_IndexFunc_ItmItem,indexF l p q hp hl,bd_s,idxG_ge q l 0 (by omega)]
theorem cF_TskIn (l:List TskIn) (p:TskIn→Option Bool) (q:TskIn→Bool) (hp:∀ x,x∈l→p x=some (q x)) (hl:l.length<1000000000):g_ContainsFunc_TskIn (l,p)=some (l.any q):=by
 simp only [g_ContainsFunc_TskIn,g_IndexFunc_TskIn,indexF l p q hp hl,bd_s,idxG_ge q l 0 (by omega)]
theorem cF_PanPane (l:List PanPane) (p:PanPane→Option Bool) (q:PanPane→Bool) (hp:∀ x,x∈l→p x=some (q x)) (hl:l.length<1000000000):g_ContainsFunc_PanPane (l,p)=some (l.any q):=by
 simp only [g_ContainsFunc_PanPane,g_IndexFunc_PanPane,indexF l p q hp hl,bd_s,idxG_ge q l 0 (by omega)]
theorem cF_LatPair (l:List LatPair) (p:LatPair→Option Bool) (q:LatPair→Bool) (hp:∀ x,x∈l→p x=some (q x)) (hl:l.length<1000000000):g_ContainsFunc_LatPair (l,p)=some (l.any q):=by
 simp only [g_ContainsFunc_LatPair,g_IndexFunc_LatPair,indexF l p q hp hl,bd_s,idxG_ge q l 0 (by omega)]
theorem cF_FloSink (l:List FloSink) (p:FloSink→Option Bool) (q:FloSink→Bool) (hp:∀ x,x∈l→p x=some (q x)) (hl:l.length<1000000000):g_ContainsFunc_FloSink (l,p)=some (l.any q):=by
 simp only [g_ContainsFunc_FloSink,g_IndexFunc_FloSink,indexF l p q hp hl,bd_s,idxG_ge q l 0 (by omega)]
theorem s_OpOk_z (j:JobJob) (h:jobOk j=true):s_OpOk (j,op0)=some true:=by
 simp [s_OpOk,s_JobOk_e,h,inR,it_u]
theorem s_TskNew_z (j:JobJob) (h:jobOk j=true) (S:Nat) (hj:j.1=S) (hS:S=1∨S=2∨S=3):s_TskNew (j,op0,List.replicate S 0)=some (tsk0 S):=by
 simp only [s_TskNew,s_OpOk_z j h,bd_s,Bool.not_true,cnd_f,s_l7Copy];rcases hS with rfl|rfl|rfl<;>simp [it_u,gd,ix,w6_1,w6_2,w6_3,hj,inR]
theorem s_CkpNew_z (j:JobJob) (h:jobOk j=true) (S T:Nat) (hj:j.1=S) (hS:S=1∨S=2∨S=3) (hk:j.2.1=T) (hT:T=1∨T=2):s_CkpNew j=some (ckp0 S T):=by
 simp only [s_CkpNew,s_l9Nobody,s_JobOk_e,h,bd_s,Bool.not_true,cnd_f];rcases hS with rfl|rfl|rfl<;>rcases hT with rfl|rfl<;>simp [it_u,gd,w6_1,w6_2,w6_3,hj,hk]
theorem logOk_len {l:List ItmItem} (h:logOk l=true):1≤l.length∧l.length≤40:=by
 simp only [logOk,bae] at h;obtain ⟨h1,h2⟩:=inR_iff.1 h.1.1;omega
theorem len1 {α:Type} {l:List α} (h:l.length=1):∃ a,l=[a]:=List.length_eq_one_iff.1 h
theorem len2 {α:Type} {l:List α} (h:l.length=2):∃ a b,l=[a,b]:=by
 match l,h with
 | [a,b],_=>exact ⟨a,b,rfl⟩
theorem len3 {α:Type} {l:List α} (h:l.length=3):∃ a b c,l=[a,b,c]:=by
 match l,h with
 | [a,b,c],_=>exact ⟨a,b,c,rfl⟩
theorem s_FloNew_e (j:JobJob) (a:List (List ItmItem)):s_FloNew (j,a)=some (floNew j a):=by
 simp only [s_FloNew,s_JobOk_e,bd_s,floNew];by_cases hj:jobOk j=true
 case neg=>simp [hj]
 obtain ⟨hS,hT⟩:=job_S hj;by_cases hn:(a.length:Int)=j.1
 case neg =>
  have hb:((a.length:Int) != j.1)=true:=by simpa using hn
  have hb2:((a.length:Int)==j.1)=false:=by simpa using hn
  simp [hj,hb,hb2]
 have hS':a.length=1∨a.length=2∨a.length=3:=by omega
 have hT':j.2.1=((j.2.1.toNat:Nat):Int):=by omega
 have h2:=s_CkpNew_z j hj a.length j.2.1.toNat hn.symm hS' hT' (by omega);have h3:=s_TskNew_z j hj a.length hn.symm hS';have hg:∀ l:List ItmItem,logOk l=true→l.length*40≤140737488355328:=fun l h=>by have:=logOk_len h;omega
 simp only [hj,hn,h2,bd_s,Bool.not_true,cnd_f,bne_self_eq_false,Bool.not_false,beq_self_eq_true,Bool.and_self,if_true,Bool.true_and];rw [← hn];rw [← hn] at hS;rw [hT'];generalize hk:j.2.1.toNat=T at *;have hT2:T=1∨T=2:=by omega
 rcases hS' with hS'|hS'|hS'
 ·obtain ⟨x,rfl⟩:=len1 hS';simp only [op0,List.replicate,List.length] at h3;cases hx:logOk x
  ·simp [it_u,ix,s_LogOk_e,hx]
  ·have gx:=hg x hx;rcases hT2 with rfl|rfl<;>simp [it_u,gd,ix,w6_1,w6_2,w6_3,←hn,h3,hT',hk,s_LogOk_e,hx,gx]
 ·obtain ⟨x,y,rfl⟩:=len2 hS';simp only [op0,List.replicate,List.length] at h3;cases hx:logOk x
  ·simp [it_u,ix,s_LogOk_e,hx]
  have gx:=hg x hx;cases hy:logOk y
  ·simp [it_u,gd,ix,s_LogOk_e,hx,hy,gx,w6_1]
  ·have gy:=hg y hy;rcases hT2 with rfl|rfl<;>simp [it_u,gd,ix,w6_1,w6_2,w6_3,←hn,h3,hT',hk,s_LogOk_e,hx,hy,gx,gy]
 ·obtain ⟨x,y,z,rfl⟩:=len3 hS';simp only [op0,List.replicate,List.length] at h3;cases hx:logOk x
  ·simp [it_u,ix,s_LogOk_e,hx]
  have gx:=hg x hx;cases hy:logOk y
  ·simp [it_u,gd,ix,s_LogOk_e,hx,hy,gx,w6_1]
  have gy:=hg y hy;cases hz:logOk z
  ·simp [it_u,gd,ix,s_LogOk_e,hx,hy,hz,gx,gy,w6_1,w6_2]
  ·have gz:=hg z hz;rcases hT2 with rfl|rfl<;>simp [it_u,gd,ix,w6_1,w6_2,w6_3,←hn,h3,hT',hk,s_LogOk_e,hx,hy,hz,gx,gy,gz]
theorem for_t {A B:Type} {f:A→Option (A⊕B)} (st:Int→A) (n:Nat) {b:B} (hn:n<1000000000) (h0:f (st n)=some (.inr b)) (hs:∀ i:Nat,i<n→f (st i)=some (.inl (st ((i:Int)+1)))):iter f (st 0)=some b:=by
 have key:∀ k i:Nat,i+k=n→iter f (st i)=some b:=by
  intro k;induction k with
  | zero=>intro i h;rw [it_u,show (i:Nat)=n by omega,h0];rfl
  | succ k ih=>intro i h;rw [it_u,hs i (by omega)];exact ih (i+1) (by omega)
 exact key n 0 (by omega)
theorem w6_s {i n:Nat} (h:i<n) (hn:n<1000000000):w6 ((i:Int)+1)=(i:Int)+1:=w6_id (by omega) (by omega)
theorem lt_d {i n:Nat} (h:i<n):decide ((i:Int)<(n:Int))=true:=by simp;omega
theorem frItems_s (a:List ItmItem) (ha:a.length<1000000000):l_frItems (a,a)=some true:=by
 simp only [l_frItems,bne_self_eq_false,cnd_f];rw [for_t (fun i=>i) a.length (b:=.inr ()) ha (by simp) (fun i hi=>by simp [lt_d hi,hi,ix_t hi,w6_s hi ha])];rfl
theorem job_R {j:JobJob} (h:jobOk j=true):1≤j.2.2.2.2.2.2.2.2.2∧j.2.2.2.2.2.2.2.2.2≤4:=by
 simp only [jobOk,inR,bae,dte] at h;omega
theorem frOk_z:l_frOk ()=some true:=by
 simp [l_frOk,i_WinOk,inR,w6_1]
theorem xor_nn {x y:Int} (hx:0≤x) (hx2:x<9223372036854775808) (hy:0≤y) (hy2:y<9223372036854775808):0≤ixo .i64 x y:=by
 obtain ⟨a,rfl⟩:∃ k:Nat,x=k:=⟨x.toNat,by omega⟩
 obtain ⟨b,rfl⟩:∃ k:Nat,y=k:=⟨y.toNat,by omega⟩
 have h:(BitVec.ofInt 64 (a:Int) ^^^ BitVec.ofInt 64 (b:Int)).toNat<2 ^ 63:=by
  rw [BitVec.toNat_xor];apply Nat.xor_lt_two_pow<;>simp [BitVec.toNat_ofInt]<;>omega
 have h2:ixo .i64 (a:Int) (b:Int)=((BitVec.ofInt 64 (a:Int) ^^^ BitVec.ofInt 64 (b:Int)).toNat:Int):=by
  exact w6_id (n:=((BitVec.ofInt 64 (a:Int) ^^^ BitVec.ofInt 64 (b:Int)).toNat:Int)) (by omega) (by omega)
 rw [h2];omega
structure Ok (B:Int) (r:l20Rd):Prop where
 by_:∀ x,x∈r.1→0≤x∧x≤255
 len:r.1.length≤2000
 lo:0≤r.2
 hi:r.2≤B
theorem Ok.mono {B C:Int} {r:l20Rd} (h:Ok B r) (hc:B≤C):Ok C r:=⟨h.by_,h.len,h.lo,by have:=h.hi;omega⟩
theorem tm {a n:Int} (h:0≤a) (hn:1≤n):0≤Int.tmod a n∧Int.tmod a n<n:=⟨Int.tmod_nonneg n h,Int.tmod_lt_of_pos a (by omega)⟩
theorem td {a n:Int} (h:0≤a) (hn:1≤n):0≤Int.tdiv a n∧Int.tdiv a n≤a:=by
 rw [Int.tdiv_eq_ediv_of_nonneg h];exact ⟨Int.ediv_nonneg h (by omega),Int.ediv_le_self n h⟩
theorem pick (r:l20Rd) (n B:Int) (h:Ok B r) (hB:B≤1000000):Tot (fun v=>0≤v.1∧(1≤n→v.1<n)∧Ok (B+1) v.2) (s_l20Rd_pick (r,n)):=by
 obtain ⟨hb,hl,hlo,hhi⟩:=h;have w1:w6 (r.2+1)=r.2+1:=w6_id (by omega) (by omega);have w2:w6 (r.2+1-1)=r.2:=by rw [w6_id (by omega) (by omega)];omega
 have hOk:Ok (B+1) (r.1,r.2+1):=⟨hb,hl,by simp;omega,by simp;omega⟩
 simp only [s_l20Rd_pick,w1];refine Tot.bd (P:=fun v=>v.1=(r.1,r.2+1)∧(v.2=false→(1≤n∧r.1.length≠0))) (Tot.cnd (fun h=>Tot.sm ⟨rfl,by simp⟩) (fun h=>Tot.sm ⟨rfl,fun hf => ?_⟩)) (fun v hv => ?_)
 ·simp at h hf;refine ⟨by omega,?_⟩;intro he;apply hf;exact List.length_eq_zero_iff.mp he
 obtain ⟨v,c⟩:=v;obtain ⟨he,hc⟩:=hv;simp only at he hc;subst he;simp only [w2];refine Tot.cnd (fun h=>Tot.sm ⟨by simp,fun h=>by simp;omega,hOk⟩) (fun h => ?_);obtain ⟨hn,hne⟩:=hc h;have hL:(1:Int)≤(r.1.length:Int):=by omega
 refine Tot.cnd (fun h => ?_) (fun h => ?_)
 ·simp at h;refine Tot.bd (Tot.ix (P:=fun x=>0≤x∧x≤255) hlo h hb) (fun x hx=>Tot.gd (by omega) (Tot.sm ?_));rw [w6_id (by omega) (by omega)];have:=tm hx.1 hn;exact ⟨this.1,fun _=>this.2,hOk⟩
 ·have h7:w6 (r.2*7)=r.2*7:=w6_id (by omega) (by omega);have h8:w6 (r.2*7+3)=r.2*7+3:=w6_id (by omega) (by omega);have t1:=tm hlo hL;have t2:=tm (show 0≤r.2*7+3 by omega) hL;have t3:=td hlo hL;simp only [h7,h8];refine Tot.gd (by omega) (Tot.bd (Tot.ix (P:=fun x=>0≤x∧x≤255) t1.1 t1.2 hb) (fun x hx=>Tot.gd (by omega) (Tot.bd (Tot.ix (P:=fun x=>0≤x∧x≤255) t2.1 t2.2 hb) (fun y hy=>Tot.gd (by omega) (Tot.gd (by omega) (Tot.gd (by omega) (Tot.sm ?_)))))));have e1:w6 x=x:=w6_id (by omega) (by omega);have e2:w6 y=y:=w6_id (by omega) (by omega);have e3:w6 (x*131)=x*131:=w6_id (by omega) (by omega);have e4:w6 (y*1117)=y*1117:=w6_id (by omega) (by omega);have e5:w6 (x*131+y*1117)=x*131+y*1117:=w6_id (by omega) (by omega);have e6:w6 (r.2*29)=r.2*29:=w6_id (by omega) (by omega);have e7:w6 (x*131+y*1117+r.2*29)=x*131+y*1117+r.2*29:=w6_id (by omega) (by omega);have e8:w6 (Int.tdiv r.2 r.1.length)=Int.tdiv r.2 r.1.length:=w6_id (by omega) (by omega);have e9:w6 (Int.tdiv r.2 r.1.length*53)=Int.tdiv r.2 r.1.length*53:=w6_id (by omega) (by omega);have e10:w6 (x*131+y*1117+r.2*29+Int.tdiv r.2 r.1.length*53)=x*131+y*1117+r.2*29+Int.tdiv r.2 r.1.length*53:=w6_id (by omega) (by omega);simp only [e1,e2,e3,e4,e5,e6,e7,e8,e9,e10];generalize hA:x*131+y*1117+r.2*29+Int.tdiv r.2 r.1.length*53=A;have hA0:0≤A∧A<1000000000:=by omega
  have t4:=td hA0.1 (show (1:Int)≤64 by omega);have e11:w6 (Int.tdiv A 64)=Int.tdiv A 64:=w6_id (by omega) (by omega);rw [e11];have hx:=xor_nn (x:=A) (y:=Int.tdiv A 64) (by omega) (by omega) (by omega) (by omega);have:=tm hx hn;exact ⟨this.1,fun _=>this.2,hOk⟩
theorem pickP {r:l20Rd} {B:Int} (n:Int) (h:Ok B r) (hB:B≤100000) (hn:1≤n):Tot (fun v=>0≤v.1∧v.1<n∧Ok (B+1) v.2) (s_l20Rd_pick (r,n)) :=
 (pick r n B h (by omega)).mono fun v hv=>⟨hv.1,hv.2.1 hn,hv.2.2⟩
theorem l20Open_t (l:List Int) (hb:∀ x,x∈l→0≤x∧x≤255):Tot (Ok 0) (s_l20Open l):=by
 simp only [s_l20Open];refine Tot.bd (P:=fun v=>(∀ x,x∈v→0≤x∧x≤255)∧v.length≤2000) (Tot.cnd (fun h => ?_) (fun h => ?_)) (fun v hv=>Tot.sm ⟨hv.1,hv.2,by simp,by simp⟩)
 ·simp at h;refine Tot.gd (by omega) (Tot.gd (by omega) (Tot.sm ⟨fun x hx=>hb x ?_,?_⟩))
  ·simp at hx;exact List.mem_of_mem_take hx
  ·simp;omega
 ·simp at h;exact Tot.sm ⟨hb,by omega⟩
theorem l20Job_t {r:l20Rd} {B:Int} (h:Ok B r) (hB:B≤90000):Tot (fun v=>jobOk v.1=true∧Ok (B+14) v.2) (s_l20Job r):=by
 simp only [s_l20Job];refine Tot.bd (pickP 3 h (by omega) (by omega)) fun v0 h0 => ?_
 refine Tot.bd (pickP 2 h0.2.2 (by omega) (by omega)) fun v1 h1 => ?_
 refine Tot.bd (pickP 3 h1.2.2 (by omega) (by omega)) fun v2 h2 => ?_
 refine Tot.bd (pickP 6 h2.2.2 (by omega) (by omega)) fun v3 h3 => ?_
 refine Tot.bd (Tot.ixT h3.1 (by simpa using h3.2.1)) fun v4 h4 => ?_
 refine Tot.bd (pickP 5 h3.2.2 (by omega) (by omega)) fun v5 h5 => ?_
 refine Tot.bd (Tot.ixT h5.1 (by simpa using h5.2.1)) fun v6 h6 => ?_
 refine Tot.bd (pickP 4 h5.2.2 (by omega) (by omega)) fun v7 h7 => ?_
 refine Tot.bd (pickP 2 h7.2.2 (by omega) (by omega)) fun v8 h8 => ?_
 refine Tot.bd (pickP 5 h8.2.2 (by omega) (by omega)) fun v9 h9 => ?_
 refine Tot.bd (Tot.ixT h9.1 (by simpa using h9.2.1)) fun v10 h10 => ?_
 refine Tot.bd (pickP 4 h9.2.2 (by omega) (by omega)) fun v11 h11 => ?_
 have b4:1≤v4∧v4≤20:=by simp only [List.mem_cons,List.not_mem_nil,or_false] at h4;omega
 have b6:0≤v6∧v6≤20:=by simp only [List.mem_cons,List.not_mem_nil,or_false] at h6;omega
 have b10 : -9≤v10∧v10≤9:=by simp only [List.mem_cons,List.not_mem_nil,or_false] at h10;omega
 clear h4 h6 h10;have hs0:w6 (1+v0.1)=1+v0.1:=w6_id (by omega) (by omega);have hs1:w6 (1+v1.1)=1+v1.1:=w6_id (by omega) (by omega);have hs2:w6 (1+v2.1)=1+v2.1:=w6_id (by omega) (by omega);have hs7:w6 (1+v7.1)=1+v7.1:=w6_id (by omega) (by omega);have hs11:w6 (1+v11.1)=1+v11.1:=w6_id (by omega) (by omega);have k0:inR (1+v0.1) 1 3=true:=inR_iff.2 (by omega);have k1:inR (1+v1.1) 1 2=true:=inR_iff.2 (by omega);have k2:inR (1+v2.1) 1 3=true:=inR_iff.2 (by omega);have k4:inR v4 1 20=true:=inR_iff.2 b4;have k6:inR v6 0 20=true:=inR_iff.2 b6;have k7:inR (1+v7.1) 1 4=true:=inR_iff.2 (by omega);have k10:inR v10 (-9) 9=true:=inR_iff.2 b10;have k11:inR (1+v11.1) 1 4=true:=inR_iff.2 (by omega);simp only [hs0,hs1,hs2,hs7,hs11];refine Tot.bd (P:=fun v=>Ok (B+14) v.1∧jobOk v.2.2=true) (Tot.cnd (fun hk => ?_) (fun hk => ?_)) fun v18 h18=>by obtain ⟨a,b⟩:=h18;exact Tot.sm (And.intro b a)
 ·refine Tot.bd (pickP 4 h11.2.2 (by omega) (by omega)) fun v15 h15 => ?_
  refine Tot.bd (pickP 4 h15.2.2 (by omega) (by omega)) fun v16 h16 => ?_
  have hw:w6 (1+v16.1)=1+v16.1:=w6_id (by omega) (by omega);have hw2:w6 (v4+v15.1)=v4+v15.1:=w6_id (by omega) (by omega);have ht:=td (show 0≤v4+v15.1 by omega) (show 1≤1+v16.1 by omega);have hw3:w6 (Int.tdiv (v4+v15.1) (1+v16.1))=Int.tdiv (v4+v15.1) (1+v16.1):=w6_id (by omega) (by omega);simp only [hw,hw2,hw3];generalize Int.tdiv (v4+v15.1) (1+v16.1)=st at *;have hw4:w6 (4*st)=4*st:=w6_id (by omega) (by omega);have ho:=h16.2.2.mono (C:=B+14) (by omega);simp only [hw4];refine Tot.gd (by omega) (Tot.bd (P:=fun v=>v.1=v16.2∧v.2.2.1=(1+v0.1,1+v1.1,1+v2.1,v4,st,v6,1+v7.1,(v8.1==(0:Int)),v10,1+v11.1)∧(v.2.2.2=false→1≤st∧st≤v4∧v4≤4*st)) ?_ fun v17 h17 => ?_)
  ·refine Tot.cnd (fun h=>Tot.sm ⟨rfl,rfl,by simp⟩) (fun ha=>Tot.cnd (fun h=>Tot.sm ⟨rfl,rfl,by simp⟩) (fun hb=>Tot.sm ⟨rfl,rfl,fun hc => ?_⟩));simp only [decide_eq_false_iff_not] at ha hb hc;omega
  ·obtain ⟨r17,j17,j17',b17⟩:=v17;obtain ⟨h1,h2,h3⟩:=h17;simp only at h1 h2 h3;subst h1;subst h2;have hu:w6 (v4+1)=v4+1:=w6_id (by omega) (by omega);have hu2:=td (show 0≤v4+1 by omega) (show (1:Int)≤2 by omega);have hu3:w6 ((v4+1)/2)=(v4+1)/2:=w6_id (by omega) (by omega);have hu4:Int.tdiv (v4+1) 2=(v4+1)/2:=Int.tdiv_eq_ediv_of_nonneg (by omega);refine Tot.cnd (fun h=>Tot.gd (by omega) (Tot.sm ⟨ho,?_⟩)) (fun h=>Tot.sm ⟨ho,?_⟩)
   ·simp only [hu,hu3,hu4,jobOk,k0,k1,k2,k4,k6,k7,k10,k11,hk,Bool.true_and,Bool.and_true,if_true];rw [w6_id (n:=4*((v4+1)/2)) (by omega) (by omega)];simp only [inR,bae,dte];omega
   ·have h3:=h3 h;simp only [jobOk,k0,k1,k2,k4,k6,k7,k10,k11,hk,Bool.true_and,Bool.and_true,if_true,hw4];simp only [inR,bae,dte];omega
 ·refine Tot.sm ⟨h11.2.2.mono (by omega),?_⟩;simp [jobOk,k0,k1,k2,k4,k6,k7,k10,k11,hk]
theorem l20Rec_t {r:l20Rd} {B:Int} (h:Ok B r) (hB:B≤90000):Tot (fun v=>(v.1.1=1∧(0≤v.1.2.1∧v.1.2.1≤60)∧(0≤v.1.2.2.1∧v.1.2.2.1≤3)∧(-9≤v.1.2.2.2.1∧v.1.2.2.2.1≤9)∧v.1.2.2.2.2=0)∧Ok (B+4) v.2) (s_l20Rec r):=by
 simp only [s_l20Rec];refine Tot.bd (pickP 61 h (by omega) (by omega)) fun v0 h0 => ?_
 refine Tot.bd (pickP 6 h0.2.2 (by omega) (by omega)) fun v1 h1 => ?_
 refine Tot.bd (Tot.ixT h1.1 (by simpa using h1.2.1)) fun v2 h2 => ?_
 refine Tot.bd (pickP 4 h1.2.2 (by omega) (by omega)) fun v3 h3 => ?_
 refine Tot.bd (pickP 19 h3.2.2 (by omega) (by omega)) fun v4 h4 => ?_
 have hw:w6 (v4.1-9)=v4.1-9:=w6_id (by omega) (by omega);simp only [List.mem_cons,List.not_mem_nil,or_false] at h2;refine Tot.sm ⟨⟨rfl,?_,?_,?_,rfl⟩,h4.2.2.mono (by omega)⟩
 ·simp only;omega
 ·simp only;omega
 ·simp only [hw];omega
def lastM:Int→List ItmItem→Int
 | g,[]=>g
 | g,x::r=>lastM (if x.1==2 then x.2.1 else g) r
theorem lastM_app:∀ (l:List ItmItem) (g:Int) (x:ItmItem),lastM g (l++[x])=if x.1==2 then x.2.1 else lastM g l
 | [],g,x=>rfl
 | y::l,g,x=>by simp only [List.cons_append,lastM];exact lastM_app l _ x
theorem logGo_app:∀ (l:List ItmItem) (g:Int) (x:ItmItem),logGo g (l++[x])=(logGo g l&&(itmOk x&&x.1 != 3 && !(x.1==2&&decide (x.2.1≤lastM g l))))
 | [],g,x=>by
  simp only [List.nil_append,logGo,lastM];cases itmOk x<;>cases h:(x.1==3)<;>cases h2:(x.1==2)<;>by_cases h4:x.2.1≤g<;>simp [bne,h,h4]
 | y::l,g,x=>by
  simp only [List.cons_append,logGo,lastM];split
  ·simp
  ·exact logGo_app l _ x
structure LogI (l:List ItmItem) (m:Int):Prop where
 go:logGo 0 l=true
 la:lastM 0 l=m
theorem LogI.mark {l:List ItmItem} {m t:Int} (h:LogI l m) (h1:1≤t) (h2:t≤60∨t=1000) (h3:m<t):LogI (l++[(2,t,0,0,0)]) t:=by
 refine ⟨?_,by rw [lastM_app];rfl⟩;have hi:itmOk (2,t,0,0,0)=true:=by
  simp [itmOk,inR];omega
 rw [logGo_app,h.go,h.la,hi];simp;omega
theorem LogI.record {l:List ItmItem} {m t k v:Int} (h:LogI l m) (h1:0≤t∧t≤60) (h2:0≤k∧k≤3) (h3 : -9≤v∧v≤9):LogI (l++[(1,t,k,v,0)]) m:=by
 refine ⟨?_,by rw [lastM_app];exact h.la⟩;have hi:itmOk (1,t,k,v,0)=true:=by
  simp [itmOk,inR];omega
 rw [logGo_app,h.go,h.la,hi];simp
theorem LogI.end {l:List ItmItem} {m:Int} (h:LogI l m) (hm:m≤60) (hl:l.length≤39):logOk (l++[(2,1000,0,0,0)])=true:=by
 have h2:=h.mark (t:=1000) (by omega) (by omega) (by omega);have h3:inR ((l++[((2:Int),(1000:Int),(0:Int),(0:Int),(0:Int))]).length:Nat) 1 40=true:=inR_iff.2 (by simp;omega);simp only [logOk,h2.go,h3,List.getLast?_append];simp [isEnd]
theorem l20Log_t {r:l20Rd} {B:Int} (a1:Int) (h:Ok B r) (hB:B≤70000) (h0:0≤a1) (h1:a1≤20):Tot (fun v=>(logOk v.1=true∧(1≤v.1.length∧v.1.length≤a1+1))∧Ok (B+302) v.2) (s_l20Log (r,a1)):=by
 simp only [s_l20Log];refine Tot.bd (pickP 5 h (by omega) (by omega)) fun v0 h0' => ?_
 refine Tot.bd (pickP 6 h0'.2.2 (by omega) (by omega)) fun v1 h1' => ?_
 refine Tot.bd (Tot.ixT h1'.1 (by simpa using h1'.2.1)) fun v2 hv2 => ?_
 have b2:0≤v2∧v2≤12:=by simp only [List.mem_cons,List.not_mem_nil,or_false] at hv2;omega
 clear hv2;refine Tot.bd (P:=fun w=>(LogI w.2 (lastM 0 w.2)∧lastM 0 w.2≤60∧w.2.length≤a1)∧Ok (B+302) w.1) ?_ fun w hw => ?_
 ·refine Tot.iter (fun s:l20Rd×List ItmItem×Int×Int×Int=>(0≤s.2.2.2.2∧s.2.2.2.2≤a1∧s.2.1.length≤s.2.2.2.2)∧Ok (B+2+15*s.2.2.2.2) s.1∧LogI s.2.1 s.2.2.2.1∧(0≤s.2.2.2.1∧s.2.2.2.1≤60)∧(0≤s.2.2.1∧s.2.2.1≤5+6*s.2.2.2.2)) (fun s=>(a1-s.2.2.2.2).toNat) (fun s hs => ?_) ?_
  ·obtain ⟨rd,l,t,m,i⟩:=s;obtain ⟨⟨i0,i1,i2⟩,ho,hL,⟨m0,m1⟩,t0,t1⟩:=hs;simp only at i0 i1 i2 ho hL m0 m1 t0 t1 ⊢;refine Tot.cnd (fun hc => ?_) (fun hc=>Tot.sm ⟨⟨by rw [hL.la];exact hL,by rw [hL.la];exact m1,by simp only;omega⟩,ho.mono (by omega)⟩);have hc:i<a1:=by simpa using hc
   refine Tot.bd (pickP 6 ho (by omega) (by omega)) fun v5 h5 => ?_
   refine Tot.bd (pickP 4 h5.2.2 (by omega) (by omega)) fun v6 h6 => ?_
   have w1:w6 (t+v5.1)=t+v5.1:=w6_id (by omega) (by omega);have w2:w6 (t+v5.1-v2)=t+v5.1-v2:=w6_id (by omega) (by omega);have w3:w6 (i+1)=i+1:=w6_id (by omega) (by omega);simp only [w1,w2,w3];refine Tot.bd (P:=fun v=>v.2.1.length≤i+1∧Ok (B+2+15*(i+1)) v.1∧LogI v.2.1 v.2.2∧0≤v.2.2∧v.2.2≤60) (Tot.cnd (fun _ => ?_) (fun _ => ?_)) fun v hv=>Tot.sm ?_
   ·have ho:=h6.2.2.mono (C:=B+2+15*(i+1)) (by omega);refine Tot.bd (P:=fun v=>v.1=v6.2∧v.2.1=l∧v.2.2≤60) (Tot.cnd (fun _=>Tot.sm ⟨rfl,rfl,by simp⟩) (fun hc=>Tot.sm ⟨rfl,rfl,by simp only [decide_eq_false_iff_not] at hc;simp only;omega⟩)) fun v hv => ?_
    obtain ⟨r7,l7,t7⟩:=v;obtain ⟨e1,e2,e3⟩:=hv;simp only at e1 e2 e3;subst e1;subst e2;refine Tot.cnd (fun hg=>Tot.gd (by simp;omega) (Tot.sm ⟨by simp;omega,ho,?_⟩)) (fun _=>Tot.sm ⟨by simp only;omega,ho,hL,m0,m1⟩);have hg:t7>m:=by simpa using hg
    have hm:LogI (l7++[(2,t7,0,0,0)]) t7:=hL.mark (by omega) (by omega) hg;exact ⟨hm,by simp only;omega,e3⟩
   ·refine Tot.bd (l20Rec_t h6.2.2 (by omega)) fun v3 h3 => ?_
    refine Tot.bd (pickP 20 h3.2 (by omega) (by omega)) fun v4 h4 => ?_
    refine Tot.bd (pickP 7 h4.2.2 (by omega) (by omega)) fun v5' h5' => ?_
    refine Tot.bd (Tot.ixT h5'.1 (by simpa using h5'.2.1)) fun v6' hv6 => ?_
    have b6:0≤v6'∧v6'≤20:=by simp only [List.mem_cons,List.not_mem_nil,or_false] at hv6;omega
    clear hv6;refine Tot.bd (pickP 3 h5'.2.2 (by omega) (by omega)) fun v7 h7 => ?_
    have ho:=h7.2.2.mono (C:=B+2+15*(i+1)) (by omega);have w4:w6 (t+v5.1-v6')=t+v5.1-v6':=w6_id (by omega) (by omega);simp only [w4];obtain ⟨⟨rk,rt,rkey,rv,rn⟩,r3⟩:=v3;obtain ⟨⟨g1,g2,g3,g4,g5⟩,g6⟩:=h3;simp only at g1 g2 g3 g4 g5 g6 ⊢;subst g1;subst g5;refine Tot.bd (P:=fun v=>v.1=v7.2∧v.2.1=l∧v.2.2.1=1∧0≤v.2.2.2.1∧v.2.2.2.2=(v7.1,rv,0)) (Tot.cnd (fun _=>Tot.sm ⟨rfl,rfl,rfl,by simp,rfl⟩) (fun hc=>Tot.sm ⟨rfl,rfl,rfl,by simp at hc;simp;omega,rfl⟩)) fun v hv => ?_
    obtain ⟨r8,l8,k8,t8,s8⟩:=v;obtain ⟨e1,e2,e3,e4,e5⟩:=hv;simp only at e1 e2 e3 e4 e5;subst e1;subst e2;subst e3;subst e5;refine Tot.bd (P:=fun v=>v.1=v7.2∧v.2.1=l8∧v.2.2.1=1∧(0≤v.2.2.2.1∧v.2.2.2.1≤60)∧v.2.2.2.2=(v7.1,rv,0)) (Tot.cnd (fun _=>Tot.sm ⟨rfl,rfl,rfl,by simp,rfl⟩) (fun hc=>Tot.sm ⟨rfl,rfl,rfl,by simp at hc;simp;omega,rfl⟩)) fun v hv => ?_
    obtain ⟨r9,l9,k9,t9,s9⟩:=v;obtain ⟨e1,e2,e3,e6,e5⟩:=hv;simp only at e1 e2 e3 e6 e5;subst e1;subst e2;subst e3;subst e5;refine Tot.gd (by simp;omega) (Tot.sm ⟨by simp;omega,ho,?_⟩);have hm:LogI (l9++[(1,t9,v7.1,rv,0)]) m:=hL.record e6 (by omega) g4;exact ⟨hm,m0,m1⟩
   ·obtain ⟨c1,c2,c3,c4,c5⟩:=hv;refine ⟨⟨⟨by simp only;omega,by simp only;omega,c1⟩,c2,c3,⟨c4,c5⟩,by simp only;omega,by simp only;omega⟩,?_⟩;show (a1-(i+1)).toNat<(a1-i).toNat;omega
  ·exact ⟨⟨by simp,h0,by simp⟩,h1'.2.2.mono (by simp;omega),⟨rfl,rfl⟩,⟨by simp,by simp⟩,by simp;omega,by simp;omega⟩
 ·obtain ⟨⟨c1,c2,c3⟩,c4⟩:=hw;refine Tot.gd (by simp;omega) (Tot.sm ⟨⟨c1.end c2 (by omega),?_,?_⟩,c4⟩)
  ·simp
  ·simp;omega
theorem l21Logs_t {r:l20Rd} {B:Int} (a1:JobJob) (h:Ok B r) (hB:B≤50000) (h0:1≤a1.1) (h1:a1.1≤3):Tot (fun v=>(v.1.length=a1.1∧(∀ l,l∈v.1→logOk l=true∧l.length≤15))∧Ok (B+1000) v.2) (s_l21Logs (r,a1)):=by
 simp only [s_l21Logs];refine Tot.bd (P:=fun w=>(w.2.length=a1.1∧(∀ l,l∈w.2→logOk l=true∧l.length≤15))∧Ok (B+1000) w.1) ?_ fun w hw=>Tot.sm hw
 refine Tot.iter (fun s:l20Rd×JobJob×List (List ItmItem)×Int=>s.2.1=a1∧(0≤s.2.2.2∧s.2.2.2≤a1.1∧s.2.2.1.length=s.2.2.2)∧Ok (B+310*s.2.2.2) s.1∧(∀ l,l∈s.2.2.1→logOk l=true∧l.length≤15)) (fun s=>(a1.1-s.2.2.2).toNat) (fun s hs => ?_) ?_
 ·obtain ⟨rd,j,ls,i⟩:=s;obtain ⟨e,⟨i0,i1,i2⟩,ho,hl⟩:=hs;simp only at e i0 i1 i2 ho hl ⊢;subst e;refine Tot.cnd (fun hc => ?_) (fun hc=>Tot.sm ⟨⟨?_,hl⟩,ho.mono (by omega)⟩)
  ·have hc:i<j.1:=by simpa using hc
   refine Tot.bd (pickP 14 ho (by omega) (by omega)) fun v2 h2 => ?_
   refine Tot.bd (l20Log_t v2.1 h2.2.2 (by omega) (by omega) (by omega)) fun v3 h3 => ?_
   have w3:w6 (i+1)=i+1:=w6_id (by omega) (by omega);rw [w3];obtain ⟨⟨g1,g2⟩,g3⟩:=h3;refine Tot.gd (by omega) (Tot.sm ⟨⟨rfl,⟨by simp only;omega,by simp only;omega,by simp;omega⟩,g3.mono (by simp only;omega),?_⟩,?_⟩)
   ·intro l hm;simp only [lma,List.mem_singleton] at hm;rcases hm with hm|hm
    ·exact hl l hm
    ·subst hm;exact ⟨g1,by omega⟩
   ·show (j.1-(i+1)).toNat<(j.1-i).toNat;omega
  ·have hc:¬ i<j.1:=by simpa using hc
   simp only;omega
 ·exact ⟨rfl,⟨by simp,by simp only;omega,by simp⟩,h.mono (by simp),by simp⟩
theorem l20Item_t {r:l20Rd} {B:Int} (a1:Int) (ha:1≤a1) (h:Ok B r) (hB:B≤60000):Tot (fun v=>Ok (B+20) v.2) (s_l20Item (r,a1)):=by
 simp only [s_l20Item];refine Tot.bd (l20Rec_t h (by omega)) fun v0 h0 => ?_
 refine Tot.bd (pickP 4 h0.2 (by omega) (by omega)) fun v1 h1 => ?_
 refine Tot.bd (P:=fun v=>Ok (B+6) v.1) (Tot.cnd (fun _ => ?_) (fun _=>Tot.cnd (fun _ => ?_) (fun _=>Tot.sm (h1.2.2.mono (by omega))))) fun v2 h2 => ?_
 ·refine Tot.bd (pickP 4 h1.2.2 (by omega) (by omega)) fun v2 h2 => ?_
  exact Tot.bd (Tot.ixT h2.1 (by simpa using h2.2.1)) fun v3 _=>Tot.sm (h2.2.2.mono (by omega))
 ·refine Tot.bd (pickP 3 h1.2.2 (by omega) (by omega)) fun v2 h2 => ?_
  exact Tot.bd (Tot.ixT h2.1 (by simpa using h2.2.1)) fun v3 _=>Tot.sm (h2.2.2.mono (by omega))
 refine Tot.bd (pickP a1 h2 (by omega) ha) fun v2 h2=>Tot.cnd (fun _=>Tot.sm (h2.2.2.mono (by omega))) (fun _ => ?_)
 refine Tot.bd (pickP 7 h2.2.2 (by omega) (by omega)) fun v3 h3 => ?_
 refine Tot.bd (Tot.ixT h3.1 (by simpa using h3.2.1)) fun v4 _ => ?_
 refine Tot.bd (pickP 5 h3.2.2 (by omega) (by omega)) fun v5 h5 => ?_
 have ho:=h5.2.2.mono (C:=B+20) (by omega);refine Tot.bd (P:=fun v=>Ok (B+20) v.1) ?_ fun v h=>Tot.sm h
 exact Tot.cnd (fun _=>Tot.sm ho) (fun _=>Tot.cnd (fun _=>Tot.sm ho) (fun _=>Tot.cnd (fun _=>Tot.sm ho) (fun _=>Tot.cnd (fun _=>Tot.sm ho) (fun _=>Tot.sm ho))))
theorem l20AnyLog_t {r:l20Rd} {B:Int} (a1:Int) (ha:1≤a1) (h:Ok B r) (hB:B≤40000):Tot (fun v=>v.1.length≤41∧Ok (B+1000) v.2) (s_l20AnyLog (r,a1)):=by
 simp only [s_l20AnyLog];refine Tot.bd (pickP 16 h (by omega) (by omega)) fun v0 h0 => ?_
 refine Tot.bd (l20Log_t v0.1 h0.2.2 (by omega) (by omega) (by omega)) fun v1 h1 => ?_
 have hl:=h1.1.2;refine Tot.bd (pickP a1 h1.2 (by omega) ha) fun v3 h3=>Tot.cnd (fun _=>Tot.sm ⟨by simp only;omega,h3.2.2.mono (by omega)⟩) (fun _ => ?_)
 refine Tot.bd (pickP (v1.1.length:Int) h3.2.2 (by omega) (by omega)) fun v4 h4 => ?_
 refine Tot.bd (pickP 5 h4.2.2 (by omega) (by omega)) fun v17 h17 => ?_
 refine Tot.bd (P:=fun s=>match s with|.inl a=>a.2.length≤41∧Ok (B+1000) a.1|.inr a=>a.2.length≤41∧Ok (B+1000) a.1) (Tot.cnd (fun _ => ?_) (fun _=>Tot.cnd (fun _ => ?_) (fun _=>Tot.cnd (fun _ => ?_) (fun _=>Tot.cnd (fun _ => ?_) (fun _ => ?_))))) fun s hs => ?_
 ·refine Tot.bd (l20Item_t 2 (by omega) h17.2.2 (by omega)) fun v18 h18 => ?_
  refine Tot.bd (Tot.ixT h4.1 h4.2.1) fun v19 _=>Tot.sm ⟨by simp;omega,h18.mono (by omega)⟩
 ·rw [w6_id (by omega) (by omega)];exact Tot.gd (by omega) (Tot.gd (by omega) (Tot.sm ⟨by simp;omega,h17.2.2.mono (by omega)⟩))
 ·refine Tot.bd (l20Item_t 3 (by omega) h17.2.2 (by omega)) fun v18 h18 => ?_
  exact Tot.gd (by simp;omega) (Tot.sm ⟨by simp;omega,h18.mono (by omega)⟩)
 ·refine Tot.gd (by omega) (Tot.gd (by omega) (Tot.gd (by simp;omega) ?_));refine Tot.bd (pickP 60 h17.2.2 (by omega) (by omega)) fun v21 h21 => ?_
  refine Tot.gd (by simp;omega) (Tot.gd (by omega) (Tot.gd (by omega) (Tot.gd (by simp;omega) (Tot.sm ⟨by simp;omega,h21.2.2.mono (by omega)⟩))))
 ·refine Tot.bd (P:=fun v=>v.2.length≤41∧Ok (B+1000) v.1) ?_ fun v hv=>Tot.sm hv
  refine Tot.iter (fun s:l20Rd×List ItmItem=>s.2.length≤41∧Ok (B+400+4*s.2.length) s.1) (fun s=>41-s.2.length) (fun s hs => ?_) ⟨by simp only;omega,h17.2.2.mono (by simp only;omega)⟩;obtain ⟨rd,l⟩:=s;obtain ⟨i1,ho⟩:=hs;simp only at i1 ho ⊢;refine Tot.cnd (fun hc => ?_) (fun hc=>Tot.sm ⟨by simp only;omega,ho.mono (by omega)⟩);have hc:(l.length:Int)≤40:=by simpa using hc
  refine Tot.bd (l20Rec_t ho (by omega)) fun v0 h0 => ?_
  refine Tot.gd (by simp;omega) (Tot.sm ⟨⟨by simp;omega,h0.2.mono (by simp;omega)⟩,?_⟩);show 41-([v0.1]++l).length<41-l.length;simp;omega
 ·cases s with
  | inl a=>exact Tot.sm hs
  | inr a=>exact Tot.sm hs
theorem l20AnyJob_t {r:l20Rd} {B:Int} (a1:Int) (ha:1≤a1) (h:Ok B r) (hB:B≤40000):Tot (fun v=>Ok (B+100) v.2) (s_l20AnyJob (r,a1)):=by
 simp only [s_l20AnyJob];refine Tot.bd (l20Job_t h (by omega)) fun v0 h0 => ?_
 refine Tot.bd (pickP a1 h0.2 (by omega) ha) fun v2 h2=>Tot.cnd (fun _=>Tot.sm (h2.2.2.mono (by omega))) (fun _ => ?_)
 refine Tot.bd (pickP 8 h2.2.2 (by omega) (by omega)) fun v3 h3 => ?_
 refine Tot.bd (Tot.ixT h3.1 (by simpa using h3.2.1)) fun v4 _ => ?_
 refine Tot.bd (pickP 9 h3.2.2 (by omega) (by omega)) fun v5 h5 => ?_
 have ho:=h5.2.2.mono (C:=B+100) (by omega);refine Tot.bd (P:=fun v=>Ok (B+100) v.1) ?_ fun v h=>Tot.sm h
 repeat' (first|exact Tot.sm ho|refine Tot.cnd (fun _ => ?_) (fun _ => ?_))
theorem all_f {A C:Type} {f:A→Option (A⊕(Bool⊕C))} (st:Int→A) (n:Nat) (c:C) (q:Nat→Bool) (h0:f (st n)=some (.inr (.inr c))) (hs:∀ i:Nat,i<n→f (st i)=some (if q i then .inl (st ((i:Int)+1)) else .inr (.inl false))):iter f (st 0)=some (if (List.range n).all q then .inr c else .inl false):=by
 have key:∀ k i:Nat,i+k=n→iter f (st i)=some (if (List.range' i k).all q then .inr c else .inl false):=by
  intro k;induction k with
  | zero=>intro i h;rw [it_u,show (i:Nat)=n by omega,h0];rfl
  | succ k ih =>
   intro i h;rw [it_u,hs i (by omega),List.range'_succ,List.all_cons];cases hq:q i
   ·rfl
   ·simp only [if_true,bd_s,cs_l,Bool.true_and];exact ih (i+1) (by omega)
 have:=key n 0 (by omega);rw [List.range_eq_range'];exact this
theorem all_ix {α:Type} (l:List α) (p:α→Bool):(List.range l.length).all (fun i=>match l[i]? with|some x=>p x|none=>true)=l.all p:=by
 rw [Bool.eq_iff_iff];simp only [List.all_eq_true,List.mem_range];constructor
 ·intro h x hx;obtain ⟨i,hi⟩:=List.getElem?_of_mem hx;have:=h i (List.getElem?_eq_some_iff.1 hi).1
  rwa [hi] at this
 ·intro h i hi;rw [List.getElem?_eq_getElem hi];exact h _ (List.getElem_mem hi)
def pWin (w:WinWin):Bool:=inR w.1 0 60&&inR w.2 (w6 (w.1+1)) 120
def pAgg (a:AggAgg):Bool :=
 if a.1==0 then a.2.1==0&&(a.2.2.1==0&&a.2.2.2==0)
 else inR a.1 1 1000&&inR a.2.2.1 (-9) 9&&inR a.2.2.2 a.2.2.1 9&&inR a.2.1 (w6 (a.1*a.2.2.1)) (w6 (a.1*a.2.2.2))
theorem i_WinOk_e (w:WinWin):i_WinOk w=some (pWin w):=by
 simp only [i_WinOk,i_in_e,bd_s,pWin];cases inR w.1 0 60<;>rfl
theorem s_WinOk_e (w:WinWin):s_WinOk w=some (pWin w):=by
 simp only [s_WinOk,s_l1In_e,bd_s,pWin];cases inR w.1 0 60<;>rfl
theorem i_AggOk_e (a:AggAgg):i_AggOk a=some (pAgg a):=by
 simp only [i_AggOk,i_in_e,bd_s,pAgg];generalize (a.1==(0:Int))=b,inR a.1 1 1000=c1,inR a.2.2.1 (-9) 9=c2,inR a.2.2.2 a.2.2.1 9=c3;cases b
 ·cases c1<;>cases c2<;>cases c3<;>rfl
 ·simp
theorem s_AggOk_e (a:AggAgg):s_AggOk a=some (pAgg a):=by
 simp only [s_AggOk,s_l1In_e,bd_s,pAgg];generalize (a.1==(0:Int))=b,inR a.1 1 1000=c1,inR a.2.2.1 (-9) 9=c2,inR a.2.2.2 a.2.2.1 9=c3;cases b
 ·cases c1<;>cases c2<;>cases c3<;>rfl
 ·simp
def pPan (p:PanPane):Bool :=
 inR p.1 0 3&&pWin p.2.1&&inR p.2.2.1 0 1500&&pAgg p.2.2.2.2&&(if p.2.2.2.1==1 then p.2.2.1==0&&decide (p.2.2.2.2.1>0) else if p.2.2.2.1==2 then decide (p.2.2.1>0)&&decide (p.2.2.2.2.1>0) else if p.2.2.2.1==3 then decide (p.2.2.1>0)&&p.2.2.2.2.1==0 else false)
theorem i_PanOk_e (p:PanPane):i_PanOk p=some (pPan p):=by
 simp only [i_PanOk,i_isKey_e,i_WinOk_e,i_AggOk_e,i_in_e,bd_s,bd_cnd,pPan];generalize inR p.1 0 3=b1,pWin p.2.1=b2,inR p.2.2.1 0 1500=b3,pAgg p.2.2.2.2=b4,(p.2.2.2.1==(1:Int))=c1,(p.2.2.2.1==(2:Int))=c2,(p.2.2.2.1==(3:Int))=c3,(p.2.2.1==(0:Int))=d1,decide (p.2.2.2.2.1>0)=d2,decide (p.2.2.1>0)=d3,(p.2.2.2.2.1==(0:Int))=d4;cases b1<;>(try rfl);cases b2<;>(try rfl);cases b3<;>(try rfl);cases b4<;>(try rfl);cases c1
 ·cases c2
  ·cases c3
   ·rfl
   ·cases d3<;>rfl
  ·cases d3<;>rfl
 ·cases d1<;>rfl
theorem s_PanOk_e (p:PanPane):s_PanOk p=some (pPan p):=by
 have e1:(p.2.2.2.1==(3:Int))=true→(p.2.2.2.1==(1:Int))=false∧(p.2.2.2.1==(2:Int))=false:=by
  intro h;simp only [beq_iff_eq] at h;simp [h]
 have e2:(p.2.2.2.1==(1:Int))=true→(p.2.2.2.1==(2:Int))=false:=by
  intro h;simp only [beq_iff_eq] at h;simp [h]
 simp only [s_PanOk,s_WinOk_e,s_AggOk_e,s_l1In_e,bd_s,bd_cnd,pPan];generalize (p.2.2.2.1==(1:Int))=c1 at *;generalize (p.2.2.2.1==(2:Int))=c2 at *;generalize (p.2.2.2.1==(3:Int))=c3 at *;generalize inR p.1 0 3=b1,pWin p.2.1=b2,inR p.2.2.1 0 1500=b3,pAgg p.2.2.2.2=b4,(p.2.2.1==(0:Int))=d1,decide (p.2.2.2.2.1>0)=d2,decide (p.2.2.1>0)=d3,(p.2.2.2.2.1==(0:Int))=d4;cases b1<;>(try rfl);cases b2<;>(try rfl);cases b3<;>(try rfl);cases b4<;>(try rfl);cases c3
 ·cases c1
  ·cases c2
   ·cases d2<;>rfl
   ·cases d2<;>cases d3<;>rfl
  ·obtain rfl:=e2 rfl;cases d2<;>cases d1<;>rfl
 ·obtain ⟨rfl,rfl⟩:=e1 rfl;cases d4<;>cases d3<;>rfl
def pLat (x:LatPair):Bool:=x.1.1==1&&itmOk x.1&&pWin x.2&&inR x.1.2.1 x.2.1 (w6 (x.2.2-1))
theorem i_LatOk_e (x:LatPair):i_LatOk x=some (pLat x):=by
 simp only [i_LatOk,i_isRec,i_ItmOk_e,i_WinOk_e,i_in_e,bd_s,bd_cnd,pLat];generalize (x.1.1==(1:Int))=b1,itmOk x.1=b2,pWin x.2=b3;cases b1<;>cases b2<;>cases b3<;>rfl
theorem s_LatOk_e (x:LatPair):s_LatOk x=some (pLat x):=by
 simp only [s_LatOk,s_ItmOk_e,s_WinOk_e,s_l1In_e,bd_s,bd_cnd,pLat];generalize (x.1.1==(1:Int))=b1,itmOk x.1=b2,pWin x.2=b3;cases b1<;>cases b2<;>cases b3<;>rfl
theorem each_f {α A C:Type} (l:List α) (p:α→Bool) {f:A→Option (A⊕(Bool⊕C))} (st:Int→A) (c:C) (hn:l.length<1000000000) (h0:f (st l.length)=some (.inr (.inr c))) (hs:∀ (i:Nat) (h:i<l.length),f (st i)=some (if p l[i] then .inl (st ((i:Int)+1)) else .inr (.inl false))):iter f (st 0)=some (if l.all p then .inr c else .inl false):=by
 rw [all_f st l.length c (fun i=>match l[i]? with|some x=>p x|none=>true) h0 (fun i hi=>by
  rw [hs i hi,List.getElem?_eq_getElem hi])]
 rw [all_ix]
def pTxn (x:TskTxn):Bool:=inR x.1 0 900&&decide ((x.2.1.length:Int)≤1500)&&decide ((x.2.2.length:Int)≤1500)&&x.2.1.all pPan&&x.2.2.all pLat
theorem s_l8Txn_e (x:TskTxn) (h1:x.2.1.length<1000000000) (h2:x.2.2.length<1000000000):s_l8Txn x=some (pTxn x):=by
 have e1:decide ((x.2.1.length:Int)>1500) = !decide ((x.2.1.length:Int)≤1500):=by
  by_cases h:(x.2.1.length:Int)≤1500<;>simp [h]<;>omega
 have e2:decide ((x.2.2.length:Int)>1500) = !decide ((x.2.2.length:Int)≤1500):=by
  by_cases h:(x.2.2.length:Int)≤1500<;>simp [h]<;>omega
 have l1:=each_f (A:=TskTxn×Int) (C:=TskTxn) x.2.1 pPan (f:=fun (v3:TskTxn×Int)=>cnd (decide (v3.2<(v3.1.2.1.length:Int))) (bd (ix v3.1.2.1 v3.2) fun v4=>bd (s_PanOk v4) fun v5=>cnd (!v5) (some (.inr (.inl false))) (some (.inl (v3.1,w6 (v3.2+1))))) (some (.inr (.inr v3.1)))) (fun i=>(x,i)) x h1 (by simp) (fun i hi=>by
  simp only [lt_d hi,ix_t hi,s_PanOk_e,w6_s hi h1,bd_s,cnd_t];cases pPan x.2.1[i]<;>rfl)
 have l2:=each_f (A:=TskTxn×Int) (C:=PUnit) x.2.2 pLat (f:=fun (v9:TskTxn×Int)=>cnd (decide (v9.2<(v9.1.2.2.length:Int))) (bd (ix v9.1.2.2 v9.2) fun v10=>bd (s_LatOk v10) fun v11=>cnd (!v11) (some (.inr (.inl false))) (some (.inl (v9.1,w6 (v9.2+1))))) (some (.inr (.inr ())))) (fun i=>(x,i)) () h2 (by simp) (fun i hi=>by
  simp only [lt_d hi,ix_t hi,s_LatOk_e,w6_s hi h2,bd_s,cnd_t];cases pLat x.2.2[i]<;>rfl)
 simp only [s_l8Txn,s_l1In_e,bd_s,bd_cnd,pTxn,e1,e2,l1];cases inR x.1 0 900<;>(try rfl);cases decide ((x.2.1.length:Int)≤1500)<;>(try rfl);cases decide ((x.2.2.length:Int)≤1500)<;>(try rfl);simp only [Bool.not_true,cnd_f,Bool.true_and,l1,l2,bd_s];cases x.2.1.all pPan
 ·rfl
 ·simp only [if_true,cs_r,l2,bd_s,Bool.true_and];cases x.2.2.all pLat<;>rfl
def pRow (j:JobJob) (r:OpRow) (m:Int):Bool :=
 inR r.1 0 3&&pWin r.2.1&&pAgg r.2.2.1&&pAgg r.2.2.2.1 && !(r.2.2.1.1==0) && !decide (r.2.2.2.1.1>r.2.2.1.1)&&inR r.2.2.2.2.1 0 1500&&decide (m<w6 (r.2.1.2+j.2.2.2.2.2.1))&&(r.2.2.2.2.2==decide (m≥r.2.1.2))&&(decide (r.2.2.2.2.1>0)==r.2.2.2.2.2)&&((r.2.2.2.1.1==0)==r.2.2.2.2.2)
theorem i_OpRow_ok_e (j:JobJob) (r:OpRow) (m:Int):i_OpRow_ok (r,j,m)=some (pRow j r m):=by
 simp only [i_OpRow_ok,i_isKey_e,i_WinOk_e,i_AggOk_e,i_in_e,bd_s,bd_cnd,pRow];generalize inR r.1 0 3=b1,pWin r.2.1=b2,pAgg r.2.2.1=b3,pAgg r.2.2.2.1=b4,(r.2.2.1.1==(0:Int))=b5,decide (r.2.2.2.1.1>r.2.2.1.1)=b6,inR r.2.2.2.2.1 0 1500=b7,decide (m<w6 (r.2.1.2+j.2.2.2.2.2.1))=b8,decide (m≥r.2.1.2)=b9,decide (r.2.2.2.2.1>0)=c1,(r.2.2.2.1.1==(0:Int))=c2,r.2.2.2.2.2=c3;cases b1<;>(try rfl);cases b2<;>(try rfl);cases b3<;>(try rfl);cases b4<;>(try rfl);cases b5<;>(try rfl);cases b6<;>(try rfl);cases b7<;>(try rfl);cases b8<;>(try rfl);cases b9<;>cases c3<;>cases c1<;>cases c2<;>rfl
theorem s_l7Row_e (j:JobJob) (r:OpRow) (m:Int):s_l7Row (j,r,m)=some (pRow j r m):=by
 simp only [s_l7Row,s_l1In_e,s_WinOk_e,s_AggOk_e,bd_s,bd_cnd,pRow];generalize inR r.1 0 3=b1,pWin r.2.1=b2,pAgg r.2.2.1=b3,pAgg r.2.2.2.1=b4,(r.2.2.1.1==(0:Int))=b5,decide (r.2.2.2.1.1>r.2.2.1.1)=b6,inR r.2.2.2.2.1 0 1500=b7,decide (m<w6 (r.2.1.2+j.2.2.2.2.2.1))=b8,decide (m≥r.2.1.2)=b9,decide (r.2.2.2.2.1>0)=c1,(r.2.2.2.1.1==(0:Int))=c2,r.2.2.2.2.2=c3;cases b1<;>(try rfl);cases b2<;>(try rfl);cases b3<;>(try rfl);cases b5<;>(try (cases b4<;>rfl));cases b4<;>(try rfl);cases b6<;>(try rfl);cases b7<;>(try rfl);cases b9<;>cases c3<;>cases b8<;>cases c1<;>cases c2<;>rfl
def lessW (a b:WinWin):Bool:=if a.1==b.1 then decide (a.2<b.2) else decide (a.1<b.1)
def ahead (a b:OpRow):Bool:=if a.1==b.1 then lessW a.2.1 b.2.1 else decide (a.1<b.1)
def touchW (a b:WinWin):Bool:=decide (a.1<b.2)&&decide (b.1<a.2)
theorem s_l2Less_e (a b:WinWin):s_l2Less (a,b)=some (lessW a b):=by
 simp only [s_l2Less,lessW,bne];cases a.1==b.1<;>rfl
theorem s_l5Ahead_e (k:Int) (a:WinWin) (k':Int) (b:WinWin):s_l5Ahead (k,a,k',b)=some (if k==k' then lessW a b else decide (k<k')):=by
 simp only [s_l5Ahead,s_l2Less_e,bne,bd_s];cases k==k'<;>rfl
theorem s_WinTouch_e (a b:WinWin):s_WinTouch (a,b)=some (touchW a b):=by
 simp only [s_WinTouch,touchW];cases decide (a.1<b.2)<;>rfl
theorem i_WinTouch_e (a b:WinWin):i_WinTouch (a,b)=some (touchW a b):=by
 simp only [i_WinTouch,touchW];cases decide (a.1<b.2)<;>rfl
def cmpI (a b:Int):Int:=if a<b then -1 else if a>b then 1 else 0
theorem g_Compare_int_e (a b:Int):g_Compare_int (a,b)=some (cmpI a b):=by
 simp only [g_Compare_int,g_isNaN_int,cmpI,bd_s,bne_self_eq_false,cnd_f,cs_r];by_cases h:a<b
 ·simp [h]
 ·by_cases h2:a>b
  ·simp [h,h2]
  ·simp [h,h2]
theorem g_Or_int_e (a b:Int):g_Or_int [a,b]=some (if a==0 then b else a):=by
 simp only [g_Or_int];by_cases h:a=0
 ·subst h;by_cases h2:b=0
  ·subst h2;simp [it_u,ix,w6_1,w6_2]
  ·have hb:(b != 0)=true:=by simpa using h2
   simp [it_u,ix,w6_1,hb]
 ·have hb:(a != 0)=true:=by simpa using h
  simp [it_u,ix,h,hb]
theorem i_OpRow_compare_e (a b:OpRow):Tot (fun v=>decide (v≥0) = !ahead a b) (i_OpRow_compare (a,b)):=by
 simp only [i_OpRow_compare,i_WinWin_compare,g_Compare_int_e,g_Or_int_e,bd_s];refine Tot.sm ?_;simp only [ahead,lessW,cmpI];by_cases h1:a.1=b.1
 ·by_cases h2:a.2.1.1=b.2.1.1
  ·by_cases h3:a.2.1.2<b.2.1.2
   ·simp [h1,h2,h3]
   ·by_cases h4:a.2.1.2>b.2.1.2
    ·simp [h1,h2,h3,h4]
    ·simp [h1,h2,h3,h4]
  ·rcases Int.lt_or_gt_of_ne h2 with h3|h3
   ·simp [h1,h2,h3]
   ·have h4:¬ a.2.1.1<b.2.1.1:=by omega
    simp [h1,h2,h3,h4]
 ·rcases Int.lt_or_gt_of_ne h1 with h3|h3
  ·simp [h1,h3]
  ·have h4:¬ a.1<b.1:=by omega
   simp [h1,h3,h4]
def pAt (j:JobJob) (m:Int) (rows:List OpRow) (i:Nat):Bool :=
 match rows[i]? with
 | some r=>pRow j r m&&(match i with|0=>true|k+1=>(match rows[k]? with|some p=>ahead p r|none=>true)) && !(j.2.2.1==3&&(rows.take i).any fun o=>o.1==r.1&&touchW o.2.1 r.2.1)
 | none=>true
def pOp (j:JobJob) (s:OpState):Bool:=jobOk j&&inR s.1 0 1000&&decide ((s.2.length:Int)≤300)&&(List.range s.2.length).all (pAt j s.1 s.2)
theorem i_OpOk_e (j:JobJob) (s:OpState) (h:s.2.length<1000000000):i_OpOk (j,s)=some (pOp j s):=by
 have e1:decide ((s.2.length:Int)>300) = !decide ((s.2.length:Int)≤300):=by
  by_cases h:(s.2.length:Int)≤300<;>simp [h]<;>omega
 simp only [i_OpOk,i_JobOk_e,i_isTime_e,bd_s,bd_cnd,pOp,e1];cases jobOk j<;>(try rfl);cases inR s.1 0 1000<;>(try rfl);cases decide ((s.2.length:Int)≤300)<;>(try rfl);simp only [Bool.not_true,cnd_f,Bool.true_and];rw [all_f (fun i=>(j,s,i)) s.2.length (c:=()) (pAt j s.1 s.2) (by simp) (fun i hi=>by
  have hc:∀ r:OpRow,g_ContainsFunc_OpRow ((s.2.drop 0).take ((i:Int).toNat-0),cl fun q=>i_OpOk__1 (q,r))=some ((s.2.take i).any fun o=>o.1==r.1&&touchW o.2.1 r.2.1):=by
   intro r;have:=cF_OpRow (s.2.take i) (fun q=>i_OpOk__1 (q,r)) (fun o=>o.1==r.1&&touchW o.2.1 r.2.1) (fun o _=>by
    simp only [i_OpOk__1,i_WinTouch_e,bd_s];cases o.1==r.1<;>rfl) (by simp;omega)
   simpa using this
  have hi':¬ (s.2.length≤i):=by omega
  simp only [lt_d hi,ix_t hi,i_OpRow_ok_e,bd_s,cnd_t,bd_cnd,pAt,List.getElem?_eq_getElem hi,w6_s hi h,hc];cases pRow j s.2[i] s.1<;>(try rfl);cases i with
  | zero =>
   have h0:decide ((((0:Nat):Int))>0)=false:=rfl;have hg:(0:Int)≤(((0:Nat):Int)):=by omega
   have hg2:0≤(((0:Nat):Int)).toNat∧(((0:Nat):Int)).toNat≤s.2.length:=by simp
   simp only [h0,cnd_f,bd_s,gd_t hg,gd_t hg2,hc,Bool.true_and,Bool.not_true];cases j.2.2.1==(3:Int)<;>rfl
  | succ k =>
   have h0:decide ((((k+1:Nat):Int))>0)=true:=by simp only [dte];omega
   have hg:(0:Int)≤(((k+1:Nat):Int)):=by omega
   have hg2:0≤(((k+1:Nat):Int)).toNat∧(((k+1:Nat):Int)).toNat≤s.2.length:=⟨by omega,by omega⟩
   have hk:w6 (((k+1:Nat):Int)-1)=(k:Int):=by rw [w6_id (by omega) (by omega)];omega
   have hkl:k<s.2.length:=by omega
   obtain ⟨v,hv,hv2⟩:=i_OpRow_compare_e s.2[k] s.2[k+1];simp only [h0,cnd_t,cnd_f,bd_s,hk,ix_t hkl,hv,hv2,gd_t hg,gd_t hg2,hc,Bool.true_and,Bool.not_true,List.getElem?_eq_getElem hkl];cases ahead s.2[k] s.2[k+1]<;>(try rfl);cases j.2.2.1==(3:Int)<;>(try rfl);simp only [Bool.not_true,cnd_f,cnd_t,bd_s,gd_t hg,gd_t hg2,hc,Bool.true_and];cases ((s.2.take (k+1)).any fun o=>o.1==s.2[k+1].1&&touchW o.2.1 s.2[k+1].2.1)<;>rfl)]
 cases (List.range s.2.length).all (pAt j s.1 s.2)<;>rfl
theorem touch_f (j:JobJob) (s:OpState) (h:s.2.length<1000000000) (i:Nat) (hi:i<s.2.length) (r:OpRow) :
  iter (A:=(JobJob×(OpState×(OpRow×Int)))) (B:=(Bool⊕(JobJob×OpState))) (fun (v11:(JobJob×(OpState×(OpRow×Int))))=>(bd (α:=(JobJob×(OpState×(OpRow×Bool)))) (cnd (decide (v11.2.2.2<(i:Int))) (some (v11.1,v11.2.1,v11.2.2.1,(v11.1.2.2.1==(3:Int)))) (some (v11.1,v11.2.1,v11.2.2.1,false))) fun (v12:(JobJob×(OpState×(OpRow×Bool))))=>(cnd v12.2.2.2 (bd (α:=(JobJob×(OpState×(OpRow×Bool)))) (bd (ix v12.2.1.2 v11.2.2.2) fun (v13:OpRow)=>(cnd (v13.1==v12.2.2.1.1) (bd (ix v12.2.1.2 v11.2.2.2) fun (v14:OpRow)=>(bd (s_WinTouch (v14.2.1,v12.2.2.1.2.1)) fun (v15:Bool)=>(some (v12.1,v12.2.1,v12.2.2.1,v15)))) (some (v12.1,v12.2.1,v12.2.2.1,false)))) fun (v16:(JobJob×(OpState×(OpRow×Bool))))=>(cnd v16.2.2.2 (some (.inr (.inl false))) (some (.inl (v16.1,v16.2.1,v16.2.2.1,(w6 (v11.2.2.2+(1:Int)))))))) (some (.inr (.inr (v12.1,v12.2.1))))))) (j,s,r,(0:Int))
  = some (if j.2.2.1==3&&(s.2.take i).any (fun o=>o.1==r.1&&touchW o.2.1 r.2.1) then .inl false else .inr (j,s)):=by
 cases hk:(j.2.2.1==(3:Int)) with
 | false =>
  rw [it_u];cases h0:decide ((0:Int)<(i:Int)) with
  | true=>simp only [h0,hk,cnd_t,cnd_f,bd_s,cs_r];rfl
  | false=>simp only [h0,hk,cnd_t,cnd_f,bd_s,cs_r];rfl
 | true =>
  have hl:(s.2.take i).length=i:=by simp;omega
  have:=each_f (s.2.take i) (fun o => !(o.1==r.1&&touchW o.2.1 r.2.1)) (f:=fun (v11:(JobJob×(OpState×(OpRow×Int))))=>(bd (α:=(JobJob×(OpState×(OpRow×Bool)))) (cnd (decide (v11.2.2.2<(i:Int))) (some (v11.1,v11.2.1,v11.2.2.1,(v11.1.2.2.1==(3:Int)))) (some (v11.1,v11.2.1,v11.2.2.1,false))) fun (v12:(JobJob×(OpState×(OpRow×Bool))))=>(cnd v12.2.2.2 (bd (α:=(JobJob×(OpState×(OpRow×Bool)))) (bd (ix v12.2.1.2 v11.2.2.2) fun (v13:OpRow)=>(cnd (v13.1==v12.2.2.1.1) (bd (ix v12.2.1.2 v11.2.2.2) fun (v14:OpRow)=>(bd (s_WinTouch (v14.2.1,v12.2.2.1.2.1)) fun (v15:Bool)=>(some (v12.1,v12.2.1,v12.2.2.1,v15)))) (some (v12.1,v12.2.1,v12.2.2.1,false)))) fun (v16:(JobJob×(OpState×(OpRow×Bool))))=>(cnd v16.2.2.2 (some (.inr (.inl false))) (some (.inl (v16.1,v16.2.1,v16.2.2.1,(w6 (v11.2.2.2+(1:Int)))))))) (some (.inr (.inr (v12.1,v12.2.1)))))))
   (fun k=>(j,s,r,k)) (j,s) (by omega) (by simp [hl]) (fun k hk'=>by
    have hki:k<i:=by omega
    have hks:k<s.2.length:=by omega
    simp only [lt_d hki,cnd_t,bd_s,hk,ix_t hks,s_WinTouch_e,w6_s hks h,List.getElem_take];cases s.2[k].1==r.1
    ·rfl
    ·cases touchW s.2[k].2.1 r.2.1<;>rfl)
  rw [this];simp only [Bool.true_and];have e:(s.2.take i).all (fun o => !(o.1==r.1&&touchW o.2.1 r.2.1)) = !(s.2.take i).any (fun o=>o.1==r.1&&touchW o.2.1 r.2.1):=by
   rw [List.not_any_eq_all_not]
  rw [e];cases (s.2.take i).any (fun o=>o.1==r.1&&touchW o.2.1 r.2.1)<;>rfl
theorem s_OpOk_e (j:JobJob) (s:OpState) (h:s.2.length<1000000000):s_OpOk (j,s)=some (pOp j s):=by
 have e1:decide ((s.2.length:Int)>300) = !decide ((s.2.length:Int)≤300):=by
  by_cases h:(s.2.length:Int)≤300<;>simp [h]<;>omega
 simp only [s_OpOk,s_JobOk_e,s_l1In_e,bd_s,bd_cnd,pOp,e1];cases jobOk j<;>(try rfl);cases inR s.1 0 1000<;>(try rfl);cases decide ((s.2.length:Int)≤300)<;>(try rfl);simp only [Bool.not_true,cnd_f,Bool.true_and];rw [all_f (fun i=>(j,s,i)) s.2.length (c:=()) (pAt j s.1 s.2) (by simp) (fun i hi=>by
  have ht:=touch_f j s h i hi s.2[i];simp only [bd_cnd,bd_s,cnd_f,cnd_t] at ht;simp only [lt_d hi,ix_t hi,s_l7Row_e,bd_s,cnd_t,pAt,List.getElem?_eq_getElem hi,w6_s hi h];cases pRow j s.2[i] s.1<;>(try rfl);simp only [Bool.not_true,cnd_f,Bool.true_and];cases i with
  | zero =>
   have h0:decide ((((0:Nat):Int))>0)=false:=rfl;simp only [h0,cnd_f,bd_s,Bool.true_and,Bool.not_true];rw [ht];cases j.2.2.1==(3:Int)&&(s.2.take 0).any (fun o=>o.1==s.2[0].1&&touchW o.2.1 s.2[0].2.1)<;>rfl
  | succ k =>
   have h0:decide ((((k+1:Nat):Int))>0)=true:=by simp only [dte];omega
   have hk:w6 (((k+1:Nat):Int)-1)=(k:Int):=by rw [w6_id (by omega) (by omega)];omega
   have hkl:k<s.2.length:=by omega
   simp only [h0,cnd_t,cnd_f,bd_s,hk,ix_t hkl,s_l5Ahead_e,Bool.true_and,Bool.not_true,List.getElem?_eq_getElem hkl,ahead];cases (if s.2[k].1==s.2[k+1].1 then lessW s.2[k].2.1 s.2[k+1].2.1 else decide (s.2[k].1<s.2[k+1].1))<;>(try rfl);simp only [Bool.not_true,cnd_f];rw [ht];cases j.2.2.1==(3:Int)&&(s.2.take (k+1)).any (fun o=>o.1==s.2[k+1].1&&touchW o.2.1 s.2[k+1].2.1)<;>rfl)]
 cases (List.range s.2.length).all (pAt j s.1 s.2)<;>rfl
theorem fold_f {α A B S:Type} (l:List α) (g:S→α→S) {f:A→Option (A⊕B)} (st:S→Int→A) (fin:S→B) (s0:S) (h0:∀ s,f (st s l.length)=some (.inr (fin s))) (hs:∀ (s:S) (i:Nat) (h:i<l.length),f (st s i)=some (.inl (st (g s l[i]) ((i:Int)+1)))):iter f (st s0 0)=some (fin (l.foldl g s0)):=by
 have key:∀ k i:Nat,i+k=l.length→∀ s,iter f (st s i)=some (fin ((l.drop i).foldl g s)):=by
  intro k;induction k with
  | zero =>
   intro i h s;rw [it_u,show i=l.length by omega,h0];simp
  | succ k ih =>
   intro i h s;have hi:i<l.length:=by omega
   rw [it_u,hs s i hi,List.drop_eq_getElem_cons hi,List.foldl_cons];simp only [bd_s,cs_l];exact ih (i+1) (by omega) _
 have:=key l.length 0 (by omega) s0;simpa using this
theorem s_l8Txn_u (x:TskTxn):s_l8Txn x=some (pTxn x):=by
 have e1:decide ((x.2.1.length:Int)>1500) = !decide ((x.2.1.length:Int)≤1500):=by
  by_cases h:(x.2.1.length:Int)≤1500<;>simp [h]<;>omega
 have e2:decide ((x.2.2.length:Int)>1500) = !decide ((x.2.2.length:Int)≤1500):=by
  by_cases h:(x.2.2.length:Int)≤1500<;>simp [h]<;>omega
 by_cases h1:(x.2.1.length:Int)≤1500
 ·by_cases h2:(x.2.2.length:Int)≤1500
  ·exact s_l8Txn_e x (by omega) (by omega)
  ·have h2':decide ((x.2.2.length:Int)≤1500)=false:=by simpa using h2
   simp only [s_l8Txn,s_l1In_e,bd_s,bd_cnd,pTxn,e1,e2,h2'];cases inR x.1 0 900<;>(try rfl);cases decide ((x.2.1.length:Int)≤1500)<;>rfl
 ·have h1':decide ((x.2.1.length:Int)≤1500)=false:=by simpa using h1
  simp only [s_l8Txn,s_l1In_e,bd_s,bd_cnd,pTxn,e1,e2,h1'];cases inR x.1 0 900<;>rfl
theorem s_OpOk_u (j:JobJob) (s:OpState):s_OpOk (j,s)=some (pOp j s):=by
 have e1:decide ((s.2.length:Int)>300) = !decide ((s.2.length:Int)≤300):=by
  by_cases h:(s.2.length:Int)≤300<;>simp [h]<;>omega
 by_cases h1:(s.2.length:Int)≤300
 ·exact s_OpOk_e j s (by omega)
 ·have h1':decide ((s.2.length:Int)≤300)=false:=by simpa using h1
  simp only [s_OpOk,s_JobOk_e,s_l1In_e,bd_s,bd_cnd,pOp,e1,h1'];cases jobOk j<;>(try rfl);cases inR s.1 0 1000<;>rfl
def pIn (j:JobJob) (c:TskIn):Bool:=decide ((c.1.length:Int)≤j.2.2.2.2.2.2.2.2.2)&&inR c.2.1 0 1000&&c.1.all itmOk
theorem s_l8In_e (j:JobJob) (c:TskIn) (hj:j.2.2.2.2.2.2.2.2.2≤4):s_l8In (j,c)=some (pIn j c):=by
 have e1:decide ((c.1.length:Int)>j.2.2.2.2.2.2.2.2.2) = !decide ((c.1.length:Int)≤j.2.2.2.2.2.2.2.2.2):=by
  by_cases h:(c.1.length:Int)≤j.2.2.2.2.2.2.2.2.2<;>simp [h]<;>omega
 simp only [s_l8In,s_l1In_e,bd_s,bd_cnd,pIn,e1];cases hl:decide ((c.1.length:Int)≤j.2.2.2.2.2.2.2.2.2)<;>(try rfl);have hl':c.1.length<1000000000:=by simp at hl;omega
 cases inR c.2.1 0 1000<;>(try rfl);simp only [Bool.not_true,cnd_f,Bool.true_and];rw [each_f (A:=TskIn×Int) (C:=PUnit) c.1 itmOk (fun i=>(c,i)) () hl' (by simp) (fun i hi=>by
  simp only [lt_d hi,ix_t hi,s_ItmOk_e,w6_s hi hl',bd_s,cnd_t];cases itmOk c.1[i]<;>rfl)]
 cases c.1.all itmOk<;>rfl
def tHeld (t:TskTask):Int:=t.1.foldl (fun n c=>if c.2.2 then n+1 else n) 0
def tLow (t:TskTask):Int:=t.1.foldl (fun n c=>if c.2.1<n then c.2.1 else n) 1000
theorem s_TskLow_e (t:TskTask) (h:t.1.length<1000000000):s_TskLow t=some (tLow t):=by
 simp only [s_TskLow];rw [fold_f t.1 (fun n c=>if c.2.1<n then c.2.1 else n) (fun n i=>(t,n,i)) (fun n=>n) 1000 (fun s=>by simp) (fun s i hi=>by
  simp only [lt_d hi,ix_t hi,w6_s hi h,bd_s,cnd_t,cnd_if];by_cases hc:t.1[i].2.1<s<;>simp [hc])]
 rfl
theorem fold_i {α A B S:Type} (l:List α) (g:S→α→S) (I:Nat→S→Prop) {f:A→Option (A⊕B)} (st:S→Int→A) (fin:S→B) (s0:S) (hI:I 0 s0) (h0:∀ s,f (st s l.length)=some (.inr (fin s))) (hs:∀ (s:S) (i:Nat) (h:i<l.length),I i s→I (i+1) (g s l[i])∧f (st s i)=some (.inl (st (g s l[i]) ((i:Int)+1)))):iter f (st s0 0)=some (fin (l.foldl g s0)):=by
 have key:∀ k i:Nat,i+k=l.length→∀ s,I i s→iter f (st s i)=some (fin ((l.drop i).foldl g s)):=by
  intro k;induction k with
  | zero =>
   intro i h s _;rw [it_u,show i=l.length by omega,h0];simp
  | succ k ih =>
   intro i h s hs';have hi:i<l.length:=by omega
   obtain ⟨h1,h2⟩:=hs s i hi hs';rw [it_u,h2,List.drop_eq_getElem_cons hi,List.foldl_cons];simp only [bd_s,cs_l];exact ih (i+1) (by omega) _ h1
 have:=key l.length 0 (by omega) s0 hI;simpa using this
theorem s_TskHeld_e (t:TskTask) (h:t.1.length<1000000000):s_TskHeld t=some (tHeld t):=by
 simp only [s_TskHeld];rw [fold_i t.1 (fun n c=>if c.2.2 then n+1 else n) (fun i n=>0≤n∧n≤(i:Int)) (fun n i=>(t,n,i)) (fun n=>n) 0 (by simp) (fun s=>by simp) (fun s i hi hI=>by
  refine ⟨?_,?_⟩
  ·split<;>omega
  ·have e:w6 (s+1)=s+1:=w6_id (by omega) (by omega);simp only [lt_d hi,ix_t hi,w6_s hi h,bd_s,cnd_t,cnd_if];by_cases hc:t.1[i].2.2=true<;>simp [hc,e])]
 rfl
def pTsk (j:JobJob) (t:TskTask):Bool:=pOp j t.2.1&&(t.1.length:Int)==j.1&&inR t.2.2.1 0 900&&pTxn t.2.2.2&&t.2.2.2.1==0&&t.1.all (pIn j)&&decide (tHeld t<t.1.length)&&t.2.1.1==tLow t
theorem pOp_job {j:JobJob} {s:OpState} (h:pOp j s=true):jobOk j=true:=by
 simp only [pOp,bae] at h;exact h.1.1.1
theorem s_TskOk_e (j:JobJob) (t:TskTask):s_TskOk (j,t)=some (pTsk j t):=by
 simp only [s_TskOk,s_OpOk_u,s_l1In_e,s_l8Txn_u,bd_s,bd_cnd,pTsk];cases h1:pOp j t.2.1<;>(try rfl);have hj:=pOp_job h1;have hr:=job_R hj;have hs:=(job_S hj).1;cases h2:(t.1.length:Int)==j.1
 ·have:((t.1.length:Int) != j.1)=true:=by simp [bne,h2]
  simp only [this];rfl
 have h2':((t.1.length:Int) != j.1)=false:=by simp [bne,h2]
 have hl:t.1.length<1000000000:=by
  simp only [beq_iff_eq] at h2;omega
 simp only [h2'];cases inR t.2.2.1 0 900<;>(try rfl);cases pTxn t.2.2.2<;>(try rfl);cases h3:t.2.2.2.1==0
 ·have:(t.2.2.2.1 != 0)=true:=by simp [bne,h3]
  simp only [this];rfl
 have h3':(t.2.2.2.1 != 0)=false:=by simp [bne,h3]
 simp only [h3',Bool.not_true,cnd_f,Bool.true_and];rw [each_f (A:=JobJob×(TskTask×Int)) (C:=TskTask) t.1 (pIn j) (fun i=>(j,t,i)) t hl (by simp) (fun i hi=>by
  simp only [lt_d hi,ix_t hi,s_l8In_e j _ hr.2,w6_s hi hl,bd_s,cnd_t];cases pIn j t.1[i]<;>rfl)]
 cases t.1.all (pIn j)<;>(try rfl);simp only [if_true,cs_r,bd_s,s_TskHeld_e t hl,s_TskLow_e t hl,Bool.true_and];cases decide (tHeld t<t.1.length)<;>rfl
def isTm (n:Int):Bool:=inR n 0 1000
def lowI (l:List Int):Int:=l.foldl (fun n m=>if m<n then m else n) 1000
def pSnap (j:JobJob) (s:CkpSnap):Bool:=pOp j s.1&&(s.2.length:Int)==j.1&&s.2.all isTm&&s.1.1==lowI s.2
theorem bne_b {a b:Int}:(a != b) = !(a==b):=rfl
theorem chk_f {α A S C:Type} (l:List α) (p:α→Bool) (g:S→α→S) {f:A→Option (A⊕(Bool⊕C))} (st:S→Int→A) (fin:S→C) (s0:S) (h0:∀ s,f (st s l.length)=some (.inr (.inr (fin s)))) (hs:∀ (s:S) (i:Nat) (h:i<l.length),f (st s i)=some (if p l[i] then .inl (st (g s l[i]) ((i:Int)+1)) else .inr (.inl false))):iter f (st s0 0)=some (if l.all p then .inr (fin (l.foldl g s0)) else .inl false):=by
 have key:∀ k i:Nat,i+k=l.length→∀ s,iter f (st s i)=some (if (l.drop i).all p then .inr (fin ((l.drop i).foldl g s)) else .inl false):=by
  intro k;induction k with
  | zero =>
   intro i h s;rw [it_u,show i=l.length by omega,h0];simp
  | succ k ih =>
   intro i h s;have hi:i<l.length:=by omega
   rw [it_u,hs s i hi,List.drop_eq_getElem_cons hi,List.foldl_cons,List.all_cons];cases hp:p l[i]
   ·rfl
   ·simp only [if_true,bd_s,cs_l,Bool.true_and];exact ih (i+1) (by omega) _
 have:=key l.length 0 (by omega) s0;simpa using this
theorem s_l9Snap_e (j:JobJob) (s:CkpSnap):s_l9Snap (j,s)=some (pSnap j s):=by
 simp only [s_l9Snap,s_OpOk_u,s_l1In_e,bd_s,bd_cnd,pSnap,bne_b];cases h1:pOp j s.1<;>(try rfl);have hs:=(job_S (pOp_job h1)).1;cases h2:(s.2.length:Int)==j.1<;>(try rfl);have hl:s.2.length<1000000000:=by
  simp only [beq_iff_eq] at h2;omega
 simp only [Bool.not_true,Bool.not_false,cnd_f,Bool.true_and];rw [chk_f (A:=CkpSnap×(Int×Int)) (C:=CkpSnap×Int) s.2 isTm (fun n m=>if m<n then m else n) (fun n i=>(s,n,i)) (fun n=>(s,n)) 1000 (fun n=>by simp) (fun n i hi=>by
  simp only [lt_d hi,ix_t hi,w6_s hi hl,bd_s,cnd_t,isTm];rcases Bool.eq_false_or_eq_true (inR s.2[i] 0 1000) with hr|hr
  ·by_cases hc:s.2[i]<n<;>simp [hr,hc]
  ·simp [hr])]
 cases s.2.all isTm<;>rfl
def pSafe (j:JobJob) (s:CkpSafe):Bool:=inR s.1 0 900&&(s.2.1.length:Int)==j.1&&(s.2.2.length:Int)==j.2.1&&s.2.1.all (fun n=>inR n 0 40)&&s.2.2.all (pSnap j)
theorem s_l9Safe_e (j:JobJob) (s:CkpSafe) (hj:jobOk j=true):s_l9Safe (j,s)=some (pSafe j s):=by
 simp only [s_l9Safe,s_l1In_e,bd_s,bd_cnd,pSafe,bne_b];have hs:=job_S hj;cases inR s.1 0 900<;>(try rfl);cases h2:(s.2.1.length:Int)==j.1<;>(try rfl);cases h3:(s.2.2.length:Int)==j.2.1<;>(try rfl);have hl:s.2.1.length<1000000000:=by
  have:=hs.1;simp only [beq_iff_eq] at h2;omega
 have hl2:s.2.2.length<1000000000:=by
  have:=hs.2;simp only [beq_iff_eq] at h3;omega
 simp only [Bool.not_true,Bool.not_false,cnd_f,Bool.true_and];rw [each_f (A:=JobJob×(CkpSafe×Int)) (C:=JobJob×CkpSafe) s.2.1 (fun n=>inR n 0 40) (fun i=>(j,s,i)) (j,s) hl (by simp) (fun i hi=>by
  simp only [lt_d hi,ix_t hi,w6_s hi hl,bd_s,cnd_t];cases inR s.2.1[i] 0 40<;>rfl)]
 cases s.2.1.all (fun n=>inR n 0 40)<;>(try rfl);simp only [if_true,cs_r,bd_s,Bool.true_and];rw [each_f (A:=JobJob×(CkpSafe×Int)) (C:=PUnit) s.2.2 (pSnap j) (fun i=>(j,s,i)) () hl2 (by simp) (fun i hi=>by
  simp only [lt_d hi,ix_t hi,w6_s hi hl2,bd_s,cnd_t,s_l9Snap_e];cases pSnap j s.2.2[i]<;>rfl)]
 cases s.2.2.all (pSnap j)<;>rfl
def snEmpty (s:CkpSnap):Bool:=s.1.1==0&&s.1.2.length==0&&s.2.length==0
def pTsnap (j:JobJob) (o:Bool) (t:Bool) (s:CkpSnap):Bool:=if t then o&&pSnap j s else snEmpty s
def all2 {α β:Type} (p:α→β→Bool):List α→List β→Bool
 | a::r,b::q=>p a b&&all2 p r q
 | _,_=>true
def pSrc (o:Bool) (n:Int):Bool:=inR n (-1) 40&&(o||n == -1)
def pCkp (j:JobJob) (c:CkpState):Bool :=
 jobOk j&&inR c.1 c.2.2.2.2.2.1 900 && !(c.2.1&&c.1==c.2.2.2.2.2.1)&&(c.2.2.1.length:Int)==j.1&&(c.2.2.2.1.length:Int)==j.2.1&&(c.2.2.2.2.1.length:Int)==j.2.1&&pSafe j c.2.2.2.2.2&&c.2.2.1.all (pSrc c.2.1)&&all2 (pTsnap j c.2.1) c.2.2.2.1 c.2.2.2.2.1
theorem all2_f {α β A C:Type} (l:List α) (m:List β) (p:α→β→Bool) (hm:m.length=l.length) {f:A→Option (A⊕(Bool⊕C))} (st:Int→A) (c:C) (h0:f (st l.length)=some (.inr (.inr c))) (hs:∀ (i:Nat) (h:i<l.length),f (st i)=some (if p l[i] (m[i]'(by omega)) then .inl (st ((i:Int)+1)) else .inr (.inl false))):iter f (st 0)=some (if all2 p l m then .inr c else .inl false):=by
 have key:∀ k i:Nat,i+k=l.length→iter f (st i)=some (if all2 p (l.drop i) (m.drop i) then .inr c else .inl false):=by
  intro k;induction k with
  | zero =>
   intro i h;rw [it_u,show i=l.length by omega,h0];simp [all2]
  | succ k ih =>
   intro i h;have hi:i<l.length:=by omega
   have hi2:i<m.length:=by omega
   rw [it_u,hs i hi,List.drop_eq_getElem_cons hi,List.drop_eq_getElem_cons hi2,all2];cases hp:p l[i] m[i]
   ·rfl
   ·simp only [if_true,bd_s,cs_l,Bool.true_and];exact ih (i+1) (by omega)
 have:=key l.length 0 (by omega);simpa using this
def snSm (l:List CkpSnap):Prop:=∀ s,s∈l→s.1.2.length<1000000000∧s.2.length<1000000000
theorem sn_pos {a b:Nat} (ha:a<1000000000) (hb:b<1000000000):decide (w6 ((a:Int)+(b:Int))>0) = !(a==0&&b==0):=by
 rw [w6_id (by omega) (by omega)];rw [Bool.eq_iff_iff];simp only [dte,Bool.not_eq_true',Bool.and_eq_false_iff,beq_eq_false_iff_ne];omega
theorem s_CkpOk_e (j:JobJob) (c:CkpState) (hb:snSm c.2.2.2.2.1):s_CkpOk (j,c)=some (pCkp j c):=by
 simp only [s_CkpOk,s_JobOk_e,s_l1In_e,bd_s,bd_cnd,pCkp,bne_b];cases hj:jobOk j<;>(try rfl);have hs:=job_S hj;simp only [s_l9Safe_e j _ hj,bd_s,bd_cnd];cases inR c.1 c.2.2.2.2.2.1 900<;>(try rfl);cases ho:c.2.1&&c.1==c.2.2.2.2.2.1
 rotate_left
 ·simp only [bae] at ho;simp only [ho.1,ho.2];rfl
 cases h1:(c.2.2.1.length:Int)==j.1
 ·cases c.2.1<;>cases c.1==c.2.2.2.2.2.1<;>rfl
 cases h2:(c.2.2.2.1.length:Int)==j.2.1
 ·cases c.2.1<;>cases c.1==c.2.2.2.2.2.1<;>rfl
 cases h3:(c.2.2.2.2.1.length:Int)==j.2.1
 ·cases c.2.1<;>cases c.1==c.2.2.2.2.2.1<;>rfl
 cases h4:pSafe j c.2.2.2.2.2
 ·cases c.2.1<;>cases c.1==c.2.2.2.2.2.1<;>rfl
 have hl:c.2.2.1.length<1000000000:=by
  have:=hs.1;simp only [beq_iff_eq] at h1;omega
 have hl2:c.2.2.2.1.length<1000000000:=by
  have:=hs.2;simp only [beq_iff_eq] at h2;omega
 have hl3:c.2.2.2.2.1.length=c.2.2.2.1.length:=by
  simp only [beq_iff_eq] at h2 h3;omega
 have e:∀ (a b:Bool) (x y:Option Bool),(a&&b)=false→cnd a (cnd b x y) y=y:=by
  intro a b x y h;cases a<;>cases b<;>first|rfl|simp at h
 simp only [Bool.not_true,Bool.not_false,cnd_f,cnd_t,Bool.true_and,e _ _ _ _ ho];rw [each_f (A:=JobJob×(CkpState×Int)) (C:=JobJob×CkpState) c.2.2.1 (pSrc c.2.1) (fun i=>(j,c,i)) (j,c) hl (by simp) (fun i hi=>by
  simp only [lt_d hi,ix_t hi,w6_s hi hl,bd_s,cnd_t,pSrc];rcases Bool.eq_false_or_eq_true (inR c.2.2.1[i] (-1) 40) with h|h<;>rcases Bool.eq_false_or_eq_true c.2.1 with h'|h'<;>rcases Bool.eq_false_or_eq_true (c.2.2.1[i] == -1) with h''|h''<;>simp [h,h',h''])]
 cases c.2.2.1.all (pSrc c.2.1)<;>(try rfl);simp only [if_true,cs_r,bd_s,Bool.true_and];rw [all2_f (A:=JobJob×(CkpState×Int)) (C:=PUnit) c.2.2.2.1 c.2.2.2.2.1 (pTsnap j c.2.1) hl3 (fun i=>(j,c,i)) () (by simp) (fun i hi=>by
  have hi3:i<c.2.2.2.2.1.length:=by omega
  simp only [lt_d hi,ix_t hi,ix_t hi3,w6_s hi hl2,bd_s,cnd_t,s_l9Snap_e,pTsnap];rcases Bool.eq_false_or_eq_true c.2.2.2.1[i] with h|h
  ·rcases Bool.eq_false_or_eq_true c.2.1 with h'|h'<;>rcases Bool.eq_false_or_eq_true (pSnap j c.2.2.2.2.1[i]) with h''|h''<;>simp [h,h',h'']
  ·obtain ⟨b1,b2⟩:=hb _ (List.getElem_mem hi3);simp only [h,sn_pos b1 b2,bne_b,snEmpty];rcases Bool.eq_false_or_eq_true (c.2.2.2.2.1[i].1.1==0) with h'|h'<;>rcases Bool.eq_false_or_eq_true (c.2.2.2.2.1[i].1.2.length==0) with h''|h''<;>rcases Bool.eq_false_or_eq_true (c.2.2.2.2.1[i].2.length==0) with h3'|h3'<;>simp [h',h'',h3'])]
 cases all2 (pTsnap j c.2.1) c.2.2.2.1 c.2.2.2.2.1<;>rfl
def rise (n:Int):List TskTxn→Bool
 | []=>true
 | x::r=>pTxn x&&decide (n<x.1)&&rise x.1 r
def riseAt (n:Int) (l:List TskTxn) (i:Nat):Bool :=
 match l[i]? with
 | some x=>pTxn x&&decide (n<x.1)&&(match i with|0=>true|k+1=>(match l[k]? with|some p=>decide (p.1<x.1)|none=>true))
 | none=>true
theorem rise_iff (l:List TskTxn):∀ n,rise n l=true↔(∀ x,x∈l→pTxn x=true∧n<x.1)∧l.Pairwise (fun a b=>a.1<b.1):=by
 induction l with
 | nil=>intro n;simp [rise]
 | cons x r ih =>
  intro n;simp only [rise,bae,dte,ih,List.mem_cons,List.pairwise_cons];constructor
  ·rintro ⟨⟨h1,h2⟩,h3,h4⟩;refine ⟨?_,fun a ha=>(h3 a ha).2,h4⟩;rintro y (rfl|hy)
   ·exact ⟨h1,h2⟩
   ·exact ⟨(h3 y hy).1,by have:=(h3 y hy).2;omega⟩
  ·rintro ⟨h1,h2,h3⟩;exact ⟨h1 x (.inl rfl),fun y hy=>⟨(h1 y (.inr hy)).1,h2 y hy⟩,h3⟩
theorem pw_chain (l:List TskTxn):l.Pairwise (fun a b=>a.1<b.1)↔∀ i (h:i+1<l.length),l[i].1<l[i+1].1:=by
 constructor
 ·intro h i hi;exact List.pairwise_iff_getElem.1 h i (i+1) (by omega) hi (by omega)
 ·intro h;rw [List.pairwise_iff_getElem];intro i j hi hj hij;induction j with
  | zero=>omega
  | succ j ih =>
   by_cases e:i=j
   ·subst e;exact h i hj
   ·have:=ih (by omega) (by omega);have:=h j hj;omega
theorem rise_all (n:Int) (l:List TskTxn):(List.range l.length).all (riseAt n l)=rise n l:=by
 rw [Bool.eq_iff_iff,rise_iff,pw_chain];simp only [List.all_eq_true,List.mem_range];constructor
 ·intro h;refine ⟨?_,?_⟩
  ·intro x hx;obtain ⟨i,hi⟩:=List.getElem?_of_mem hx;have:=h i (List.getElem?_eq_some_iff.1 hi).1;simp only [riseAt,hi,bae,dte] at this;exact ⟨this.1.1,this.1.2⟩
  ·intro i hi;have:=h (i+1) hi;have e:l[i]? = some l[i]:=List.getElem?_eq_getElem (by omega);simp only [riseAt,List.getElem?_eq_getElem hi,e,bae,dte] at this;exact this.2
 ·rintro ⟨h1,h2⟩ i hi;have a:=h1 _ (List.getElem_mem hi);simp only [riseAt,List.getElem?_eq_getElem hi,bae,dte];refine ⟨⟨a.1,a.2⟩,?_⟩;cases i with
  | zero=>rfl
  | succ k =>
   have e:l[k]? = some l[k]:=List.getElem?_eq_getElem (by omega);simp only [e,dte];exact h2 k hi
def pSink (s:FloSink):Bool:=decide ((s.1.length:Int)≤12)&&inR s.2.1 0 900&&decide ((s.2.2.1.length:Int)≤1500)&&decide ((s.2.2.2.length:Int)≤1500)&&rise s.2.1 s.1&&s.2.2.1.all pPan&&s.2.2.2.all pLat
theorem gt_b (a b:Int):decide (a>b) = !decide (a≤b):=by
 by_cases h:a≤b<;>simp [h]<;>omega
theorem s_l10Sink_e (s:FloSink):s_l10Sink s=some (pSink s):=by
 simp only [s_l10Sink,s_l1In_e,bd_s,bd_cnd,pSink,gt_b _ 12,gt_b _ 1500];cases h1:decide ((s.1.length:Int)≤12)<;>(try rfl);cases inR s.2.1 0 900<;>(try rfl);cases h2:decide ((s.2.2.1.length:Int)≤1500)<;>(try rfl);cases h3:decide ((s.2.2.2.length:Int)≤1500)<;>(try rfl);have l1:s.1.length<1000000000:=by simp at h1;omega
 have l2:s.2.2.1.length<1000000000:=by simp at h2;omega
 have l3:s.2.2.2.length<1000000000:=by simp at h3;omega
 simp only [Bool.not_true,Bool.not_false,cnd_f,cnd_t,Bool.true_and];rw [all_f (A:=FloSink×Int) (C:=FloSink) (fun i=>(s,i)) s.1.length (c:=s) (riseAt s.2.1 s.1) (by simp) (fun i hi=>by
  simp only [lt_d hi,ix_t hi,s_l8Txn_u,bd_s,cnd_t,riseAt,List.getElem?_eq_getElem hi,w6_s hi l1];have e1:decide (s.1[i].1≤s.2.1) = !decide (s.2.1<s.1[i].1):=by
   by_cases h:s.2.1<s.1[i].1<;>simp [h]<;>omega
  rcases Bool.eq_false_or_eq_true (pTxn s.1[i]) with h|h
  rotate_left
  ·simp [h]
  rcases Bool.eq_false_or_eq_true (decide (s.2.1<s.1[i].1)) with h'|h'
  rotate_left
  ·simp only [h,e1,h',bd_s,Bool.not_true,Bool.not_false,cnd_f,cnd_t];rfl
  simp only [h,e1,h',bd_s,Bool.not_true,Bool.not_false,cnd_f,cnd_t,Bool.true_and];cases i with
  | zero=>rfl
  | succ k =>
   have h0:decide ((((k+1:Nat):Int))≤0)=false:=by simp only [decide_eq_false_iff_not];omega
   have hk:w6 (((k+1:Nat):Int)-1)=(k:Int):=by rw [w6_id (by omega) (by omega)];omega
   have hkl:k<s.1.length:=by omega
   simp only [h0,Bool.not_false,cnd_t,hk,ix_t hkl,ix_t hi,bd_s,List.getElem?_eq_getElem hkl];by_cases e:s.1[k].1<s.1[k+1].1
   ·have e':decide (s.1[k].1≥s.1[k+1].1)=false:=by simp only [decide_eq_false_iff_not];omega
    simp [e,e']
   ·have e':decide (s.1[k].1≥s.1[k+1].1)=true:=by simp only [dte];omega
    simp [e,e'])]
 rw [rise_all];cases rise s.2.1 s.1<;>(try rfl);simp only [if_true,cs_r,bd_s,Bool.true_and];rw [each_f (A:=FloSink×Int) (C:=FloSink) s.2.2.1 pPan (fun i=>(s,i)) s l2 (by simp) (fun i hi=>by
  simp only [lt_d hi,ix_t hi,s_PanOk_e,w6_s hi l2,bd_s,cnd_t];cases pPan s.2.2.1[i]<;>rfl)]
 cases s.2.2.1.all pPan<;>(try rfl);simp only [if_true,cs_r,bd_s,Bool.true_and];rw [each_f (A:=FloSink×Int) (C:=PUnit) s.2.2.2 pLat (fun i=>(s,i)) () l3 (by simp) (fun i hi=>by
  simp only [lt_d hi,ix_t hi,s_LatOk_e,w6_s hi l3,bd_s,cnd_t];cases pLat s.2.2.2[i]<;>rfl)]
 cases s.2.2.2.all pLat<;>rfl
abbrev fJ (f:FloFlow):JobJob:=f.1
abbrev fL (f:FloFlow):List (List ItmItem):=f.2.1
abbrev fS (f:FloFlow):List WinWin:=f.2.2.1
abbrev fT (f:FloFlow):List TskTask:=f.2.2.2.1
abbrev fK (f:FloFlow):List FloSink:=f.2.2.2.2.1
abbrev fC (f:FloFlow):CkpState:=f.2.2.2.2.2
abbrev cSnaps (c:CkpState):List CkpSnap:=c.2.2.2.2.1
abbrev cSafe (c:CkpState):CkpSafe:=c.2.2.2.2.2
def srcAt (f:FloFlow) (i:Nat):Bool :=
 match (fL f)[i]?,(fS f)[i]?,(cSafe (fC f)).2.1[i]? with
 | some l,some s,some a=>logOk l&&inR s.1 0 l.length&&inR s.2 0 (fC f).1 && !decide (a>(l.length:Int))
 | _,_,_=>false
def tskAt (f:FloFlow) (i:Nat):Bool :=
 match (fT f)[i]?,(fK f)[i]? with
 | some t,some s=>pTsk (fJ f) t && !decide (t.2.2.1>(fC f).1)&&pSink s
 | _,_=>false
def pFlo (f:FloFlow):Bool :=
 pCkp (fJ f) (fC f)&&((fL f).length:Int)==(fJ f).1&&((fS f).length:Int)==(fJ f).1&&((fT f).length:Int)==(fJ f).2.1&&((fK f).length:Int)==(fJ f).2.1&&(List.range (fL f).length).all (srcAt f)&&(List.range (fT f).length).all (tskAt f)
theorem pCkp_job {j:JobJob} {c:CkpState} (h:pCkp j c=true):jobOk j=true:=by
 simp only [pCkp,bae] at h;exact h.1.1.1.1.1.1.1.1
theorem pCkp_safe {j:JobJob} {c:CkpState} (h:pCkp j c=true):pSafe j (cSafe c)=true:=by
 simp only [pCkp,bae] at h;exact h.1.1.2
theorem pSafe_len {j:JobJob} {s:CkpSafe} (h:pSafe j s=true):(s.2.1.length:Int)=j.1∧(s.2.2.length:Int)=j.2.1:=by
 simp only [pSafe,bae,beq_iff_eq] at h;exact ⟨h.1.1.1.2,h.1.1.2⟩
theorem s_FloOk_e (f:FloFlow) (hb:snSm (cSnaps (fC f))):s_FloOk f=some (pFlo f):=by
 simp only [s_FloOk,s_CkpOk_e _ _ hb,s_l1In_e,bd_s,bd_cnd,pFlo,bne_b];cases h0:pCkp f.1 f.2.2.2.2.2<;>(try rfl);have hj:=pCkp_job h0;have hs:=job_S hj;have hsf:((f.2.2.2.2.2.2.2.2.2.2.2.1.length:Nat):Int)=f.1.1:=(pSafe_len (pCkp_safe h0)).1;cases h1:(f.2.1.length:Int)==f.1.1<;>(try rfl);cases h2:(f.2.2.1.length:Int)==f.1.1<;>(try rfl);cases h3:(f.2.2.2.1.length:Int)==f.1.2.1<;>(try rfl);cases h4:(f.2.2.2.2.1.length:Int)==f.1.2.1<;>(try rfl);simp only [beq_iff_eq] at h1 h2 h3 h4;have hl:f.2.1.length<1000000000:=by omega
 have hl2:f.2.2.2.1.length<1000000000:=by omega
 simp only [Bool.not_true,Bool.not_false,cnd_f,cnd_t,Bool.true_and];rw [all_f (A:=FloFlow×(JobJob×Int)) (C:=FloFlow×JobJob) (fun i=>(f,f.1,i)) f.2.1.length (c:=(f,f.1)) (srcAt f) (by simp [← h1]) (fun i hi=>by
  have i2:i<f.2.2.1.length:=by omega
  have i3:i<f.2.2.2.2.2.2.2.2.2.2.2.1.length:=by omega
  have hi':decide ((i:Int)<f.1.1)=true:=by rw [dte,←h1];omega
  simp only [hi',ix_t hi,ix_t i2,ix_t i3,s_LogOk_e,w6_s hi hl,bd_s,cnd_t,srcAt,List.getElem?_eq_getElem hi,List.getElem?_eq_getElem i2,List.getElem?_eq_getElem i3];cases logOk f.2.1[i]<;>(try rfl);cases inR f.2.2.1[i].1 0 f.2.1[i].length<;>(try rfl);cases inR f.2.2.1[i].2 0 f.2.2.2.2.2.1<;>(try rfl);cases decide (f.2.2.2.2.2.2.2.2.2.2.2.1[i]>(f.2.1[i].length:Int))<;>rfl)]
 cases (List.range f.2.1.length).all (srcAt f)<;>(try rfl);simp only [if_true,cs_r,bd_s,Bool.true_and];rw [all_f (A:=FloFlow×(JobJob×Int)) (C:=PUnit) (fun i=>(f,f.1,i)) f.2.2.2.1.length (c:=()) (tskAt f) (by simp [← h3]) (fun i hi=>by
  have i2:i<f.2.2.2.2.1.length:=by omega
  have hi':decide ((i:Int)<f.1.2.1)=true:=by rw [dte,←h3];omega
  simp only [hi',ix_t hi,ix_t i2,s_TskOk_e,s_l10Sink_e,w6_s hi hl2,bd_s,cnd_t,tskAt,List.getElem?_eq_getElem hi,List.getElem?_eq_getElem i2];cases pTsk f.1 f.2.2.2.1[i]<;>(try rfl);cases decide (f.2.2.2.1[i].2.2.1>f.2.2.2.2.2.1)<;>(try rfl);cases pSink f.2.2.2.2.1[i]<;>rfl)]
 cases (List.range f.2.2.2.1.length).all (tskAt f)<;>rfl
abbrev agg0:AggAgg:=(0,0,0,0)
def aggBoth (a b:AggAgg):AggAgg :=
 if a.1==0 then b else if b.1==0 then a else (w6 (a.1+b.1),w6 (a.2.1+b.2.1),(if decide (b.2.2.1<a.2.2.1) then b.2.2.1 else a.2.2.1),(if decide (b.2.2.2>a.2.2.2) then b.2.2.2 else a.2.2.2))
theorem s_AggBoth_e (a b:AggAgg):s_AggBoth (a,b)=some (aggBoth a b):=by
 simp only [s_AggBoth,aggBoth,bd_cnd,bd_s];cases a.1==0<;>(try rfl);cases b.1==0<;>(try rfl);cases decide (b.2.2.1<a.2.2.1)<;>cases decide (b.2.2.2>a.2.2.2)<;>rfl
def aggAdd (a:AggAgg) (v:Int):AggAgg:=aggBoth a (1,v,v,v)
theorem s_AggAdd_e (a:AggAgg) (v:Int):s_AggAdd (a,v)=some (aggAdd a v):=by
 simp only [s_AggAdd,s_AggBoth_e,bd_s,aggAdd]
def winSpan (a b:WinWin):WinWin:=((if decide (b.1<a.1) then b.1 else a.1),(if decide (b.2>a.2) then b.2 else a.2))
theorem s_WinSpan_e (a b:WinWin):s_WinSpan (a,b)=some (winSpan a b):=by
 simp only [s_WinSpan,winSpan,bd_cnd,bd_s];cases decide (b.1<a.1)<;>cases decide (b.2>a.2)<;>rfl
def opPane (j:JobJob) (r:OpRow) (k:Int):PanPane:=(r.1,r.2.1,r.2.2.2.2.1,k,(if j.2.2.2.2.2.2.2.1 then r.2.2.2.1 else r.2.2.1))
theorem s_l7Pane_e (j:JobJob) (r:OpRow) (k:Int):s_l7Pane (j,r,k)=some (opPane j r k):=by
 simp only [s_l7Pane,opPane,bd_cnd,bd_s];cases j.2.2.2.2.2.2.2.1<;>rfl
def sameW (a b:OpRow):Bool:=a.1==b.1&&(a.2.1.1==b.2.1.1&&a.2.1.2==b.2.1.2)
theorem s_l5Ahead_r (a b:OpRow):s_l5Ahead (a.1,a.2.1,b.1,b.2.1)=some (ahead a b):=s_l5Ahead_e ..
def putG (r:OpRow) (s:List OpRow×Bool) (x:OpRow):List OpRow×Bool :=
 if sameW x r then s else if !s.2&&ahead r x then (s.1++[r]++[x],true) else (s.1++[x],s.2)
def putE (r:OpRow) (s:List OpRow×Bool):List OpRow:=if s.2 then s.1 else s.1++[r]
theorem putG_len (r:OpRow) (s:List OpRow×Bool) (x:OpRow):(putG r s x).1.length≤s.1.length+2:=by
 simp only [putG];split
 ·omega
 ·split<;>simp
theorem s_l7Put_f (rows:List OpRow) (r:OpRow) (h:rows.length≤100000000):s_l7Put (rows,r)=some (putE r (rows.foldl (putG r) ([],false))):=by
 simp only [s_l7Put];rw [fold_i (A:=OpRow×(List OpRow×(Bool×Int))) (B:=OpRow×(List OpRow×Bool)) rows (putG r) (fun i s=>s.1.length≤2*i) (fun s i=>(r,s.1,s.2,i)) (fun s=>(r,s.1,s.2)) ([],false) (by simp) (fun s=>by simp) (fun s i hi hI=>by
  refine ⟨by have:=putG_len r s rows[i];omega,?_⟩;have g1:∀ k:Nat,k≤3→(s.1.length+k)*104≤140737488355328:=by intro k hk;omega
  simp only [lt_d hi,ix_t hi,w6_s hi (show rows.length<1000000000 by omega),bd_s,cnd_t,s_l5Ahead_r,bd_cnd,List.length_singleton,List.length_append,gd_t (g1 1 (by omega)),gd_t (g1 2 (by omega)),gd_t (show (s.1.length+1+1)*104≤140737488355328 by omega),putG,sameW,Bool.and_true];rcases Bool.eq_false_or_eq_true (rows[i].1==r.1) with h1|h1<;>rcases Bool.eq_false_or_eq_true (rows[i].2.1.1==r.2.1.1&&rows[i].2.1.2==r.2.1.2) with h2|h2<;>rcases Bool.eq_false_or_eq_true s.2 with h3|h3<;>rcases Bool.eq_false_or_eq_true (ahead r rows[i]) with h4|h4<;>simp [h1,h2,h3,h4])]
 have hl:∀ (l:List OpRow) (s:List OpRow×Bool),(l.foldl (putG r) s).1.length≤s.1.length+2*l.length:=by
  intro l;induction l with
  | nil=>intro s;simp
  | cons x l ih =>
   intro s;simp only [List.foldl_cons,List.length_cons];have:=ih (putG r s x);have:=putG_len r s x;omega
 have:=hl rows ([],false);simp only [List.length_nil] at this;simp only [bd_s,putE,List.length_singleton,bd_cnd];rw [gd_t (show ((rows.foldl (putG r) ([],false)).1.length+1)*104≤140737488355328 by omega)];cases (rows.foldl (putG r) ([],false)).2<;>rfl
def Srt (l:List OpRow):Prop:=l.Pairwise (fun a b=>ahead a b=true)
theorem ahead_iff (a b:OpRow):ahead a b=true↔a.1<b.1∨(a.1=b.1∧(a.2.1.1<b.2.1.1∨(a.2.1.1=b.2.1.1∧a.2.1.2<b.2.1.2))):=by
 simp only [ahead,lessW];by_cases h1:a.1=b.1
 ·by_cases h2:a.2.1.1=b.2.1.1
  ·simp [h1,h2]
  ·simp [h1,h2]
 ·simp [h1]
theorem sameW_iff (a b:OpRow):sameW a b=true↔a.1=b.1∧a.2.1.1=b.2.1.1∧a.2.1.2=b.2.1.2:=by
 simp [sameW]
theorem ahead_tr {a b c:OpRow} (h1:ahead a b=true) (h2:ahead b c=true):ahead a c=true:=by
 rw [ahead_iff] at *;omega
theorem ahead_tri (a b:OpRow):(sameW a b=true∧ahead a b=false∧ahead b a=false)∨(sameW a b=false∧ahead a b=true∧ahead b a=false)∨(sameW a b=false∧ahead a b=false∧ahead b a=true):=by
 have e1:=ahead_iff a b;have e2:=ahead_iff b a;have e3:=sameW_iff a b;cases h1:ahead a b<;>cases h2:ahead b a<;>cases h3:sameW a b<;>simp only [h1,h2,h3,bfe,true_iff,false_iff,and_true,and_false,or_false,false_or,reduceCtorEq,iff_true,iff_false,not_and,not_or,true_and,or_true,Bool.true_eq_false] at * <;> omega
def pPut (rows:List OpRow) (r:OpRow):List OpRow:=rows.filter (fun x=>ahead x r)++r::rows.filter (fun x=>ahead r x)
theorem put_t (r:OpRow):∀ (l:List OpRow) (o:List OpRow),(∀ x,x∈l→ahead r x=true)→l.foldl (putG r) (o,true)=(o++l,true):=by
 intro l;induction l with
 | nil=>intro o _;simp
 | cons x l ih =>
  intro o h;have hx:=h x (List.mem_cons_self ..);have:=ahead_tri x r;have hs:sameW x r=false:=by rcases this with ⟨_,_,h⟩|⟨h,_,_⟩|⟨h,_,_⟩<;>simp_all
  simp only [List.foldl_cons,putG,hs,Bool.not_true,Bool.false_and,bfe,if_false];rw [ih _ fun y hy=>h y (List.mem_cons_of_mem _ hy)];simp
theorem put_s (r:OpRow):∀ (l:List OpRow) (o:List OpRow),Srt l→putE r (l.foldl (putG r) (o,false))=o++pPut l r:=by
 intro l;induction l with
 | nil=>intro o _;simp [putE,pPut]
 | cons x l ih =>
  intro o h;obtain ⟨hx,hl⟩:=List.pairwise_cons.1 h;rcases ahead_tri x r with ⟨h1,h2,h3⟩|⟨h1,h2,h3⟩|⟨h1,h2,h3⟩
  ·simp only [List.foldl_cons,putG,h1,if_true];rw [ih _ hl];simp [pPut,h2,h3]
  ·simp only [List.foldl_cons,putG,h1,h3,Bool.and_false,bfe,if_false];rw [ih _ hl];simp [pPut,h2,h3]
  ·simp only [List.foldl_cons,putG,h1,h3,Bool.not_false,Bool.and_true,bfe,if_false,if_true];have ha:∀ y,y∈l→ahead r y=true:=fun y hy=>ahead_tr h3 (hx y hy)
   rw [put_t r l _ ha];have e1:l.filter (fun y=>ahead y r)=[]:=by
    rw [List.filter_eq_nil_iff];intro y hy;have:=ahead_tri r y;have:=ha y hy;simp_all
   have e2:l.filter (fun y=>ahead r y)=l:=List.filter_eq_self.2 ha;simp [putE,pPut,h2,h3,e1,e2]
theorem s_l7Put_e (rows:List OpRow) (r:OpRow) (h:rows.length≤100000000) (hs:Srt rows):s_l7Put (rows,r)=some (pPut rows r):=by
 rw [s_l7Put_f rows r h,put_s r rows [] hs];rfl
def pTell (j:JobJob) (s:OpState) (r:OpRow):OpState×List PanPane :=
 if decide (s.1<r.2.1.2) then ((s.1,pPut s.2 r),[])
 else ((s.1,pPut s.2 (r.1,r.2.1,r.2.2.1,agg0,w6 (r.2.2.2.2.1+1),true)),[opPane j r (if r.2.2.2.2.2 then 2 else 1)])
theorem s_l7Tell_e (j:JobJob) (s:OpState) (r:OpRow) (h:s.2.length≤100000000) (hs:Srt s.2):s_l7Tell (j,s,r)=some (pTell j s r):=by
 simp only [s_l7Tell,s_l7Put_e _ _ h hs,s_l7Pane_e,bd_s,bd_cnd,pTell];cases decide (s.1<r.2.1.2)<;>(try rfl);cases r.2.2.2.2.2<;>rfl
abbrev row0:OpRow:=(0,(0,0),(0,0,0,0),(0,0,0,0),0,false)
def isRow (k:Int) (w:WinWin) (r:OpRow):Bool:=r.1==k&&(r.2.1.1==w.1&&r.2.1.2==w.2)
def opFind (s:OpState) (k:Int) (w:WinWin):OpRow×Bool:=match s.2.find? (isRow k w) with|some r=>(r,true)|none=>(row0,false)
theorem find_f {α A C:Type} (l:List α) (p:α→Bool) {β:Type} (g:α→β) {f:A→Option (A⊕(β⊕C))} (st:Int→A) (c:C) (h0:f (st l.length)=some (.inr (.inr c))) (hs:∀ (i:Nat) (h:i<l.length),f (st i)=some (if p l[i] then .inr (.inl (g l[i])) else .inl (st ((i:Int)+1)))):iter f (st 0)=some (match l.find? p with|some x=>.inl (g x)|none=>.inr c):=by
 have key:∀ k i:Nat,i+k=l.length→iter f (st i)=some (match (l.drop i).find? p with|some x=>.inl (g x)|none=>.inr c):=by
  intro k;induction k with
  | zero =>
   intro i h;rw [it_u,show i=l.length by omega,h0];simp
  | succ k ih =>
   intro i h;have hi:i<l.length:=by omega
   rw [it_u,hs i hi,List.drop_eq_getElem_cons hi,List.find?_cons];cases hp:p l[i]
   ·simp only [bfe,if_false,bd_s,cs_l];exact ih (i+1) (by omega)
   ·rfl
 have:=key l.length 0 (by omega);simpa using this
theorem s_OpFind_e (s:OpState) (k:Int) (w:WinWin) (h:s.2.length<1000000000):s_OpFind (s,k,w)=some (opFind s k w):=by
 simp only [s_OpFind,opFind];rw [find_f (A:=OpState×(WinWin×(OpRow×Int))) (C:=OpRow) s.2 (isRow k w) (fun r=>(r,true)) (fun i=>(s,w,row0,i)) row0 (by simp) (fun i hi=>by
  simp only [lt_d hi,ix_t hi,w6_s hi h,bd_s,cnd_t,isRow,bd_cnd,Bool.and_true];rcases Bool.eq_false_or_eq_true (s.2[i].1==k) with h1|h1<;>rcases Bool.eq_false_or_eq_true (s.2[i].2.1.1==w.1&&s.2[i].2.1.2==w.2) with h2|h2<;>simp only [h1,h2,cnd_t,cnd_f,Bool.and_true,Bool.and_false,Bool.true_and,Bool.false_and,if_true,if_false,bfe])]
 cases s.2.find? (isRow k w)<;>rfl
def pInto (j:JobJob) (s:OpState) (x:ItmItem) (w:WinWin):OpState×List PanPane×Bool :=
 if decide (s.1≥w6 (w.2+j.2.2.2.2.2.1)) then (s,[],false)
 else
  let r:=(opFind s x.2.2.1 w).1
  let t:=pTell j s (x.2.2.1,w,aggAdd r.2.2.1 x.2.2.2.1,aggAdd r.2.2.2.1 x.2.2.2.1,r.2.2.2.2)
  (t.1,t.2,true)
theorem s_l7Into_e (j:JobJob) (s:OpState) (x:ItmItem) (w:WinWin) (h:s.2.length≤100000000) (hs:Srt s.2):s_l7Into (j,s,x,w)=some (pInto j s x w):=by
 simp only [s_l7Into,s_OpFind_e _ _ _ (show s.2.length<1000000000 by omega),s_AggAdd_e,s_l7Tell_e _ _ _ h hs,bd_s,pInto];cases decide (s.1≥w6 (w.2+j.2.2.2.2.2.1))<;>rfl
@[simp] theorem gd_rf {α β:Type} (a:α) [Decidable (a=a)] (x:Option β):gd (a=a) x=x:=gd_t rfl x
@[simp] theorem gd_T {β:Type} [Decidable True] (x:Option β):gd True x=x:=gd_t trivial x
def isT (x:ItmItem) (w:WinWin) (r:OpRow):Bool:=r.1==x.2.2.1&&touchW r.2.1 w
def goneP (o:OpRow):PanPane:=(o.1,o.2.1,o.2.2.2.2.1,3,agg0)
def spanOf (w:WinWin) (old:List OpRow):WinWin:=old.foldl (fun a r=>winSpan a r.2.1) w
def allOf (a:AggAgg) (old:List OpRow):AggAgg:=old.foldl (fun a r=>aggBoth a r.2.2.1) a
def told1 (r:OpRow):Bool:=decide (r.2.2.2.2.1>0)
def oneIs (old:List OpRow) (w:WinWin):Bool:=match old with|[o]=>o.2.1.1==w.1&&o.2.1.2==w.2|_=>false
def pSession (j:JobJob) (s:OpState) (x:ItmItem) (w:WinWin):OpState×List PanPane×Bool :=
 let old:=s.2.filter (isT x w)
 let span:=spanOf w old
 if decide (s.1≥w6 (span.2+j.2.2.2.2.2.1)) then (s,[],false)
 else if oneIs old span then pInto j s x span
 else
  let all:=allOf (aggAdd agg0 x.2.2.2.1) old
  let t:=pTell j (s.1,s.2.filter fun r => !isT x w r) (x.2.2.1,span,all,all,0,false)
  (t.1,(old.filter told1).map goneP++t.2,true)
theorem fold_sess (x:ItmItem) (w:WinWin):∀ (l:List OpRow) (sp:WinWin) (rest old:List OpRow),
  l.foldl (fun (a:WinWin×List OpRow×List OpRow) r=>if isT x w r then (winSpan a.1 r.2.1,a.2.1,a.2.2++[r]) else (a.1,a.2.1++[r],a.2.2)) (sp,rest,old)=(spanOf sp (l.filter (isT x w)),rest++l.filter (fun r => !isT x w r),old++l.filter (isT x w)):=by
 intro l;induction l with
 | nil=>intro sp rest old;simp [spanOf]
 | cons r l ih =>
  intro sp rest old;rw [List.foldl_cons];cases h:isT x w r
  ·simp only [h,bfe,if_false];rw [ih];simp [h]
  ·simp only [h,if_true];rw [ih];simp [h,spanOf]
theorem fold_gone:∀ (l:List OpRow) (a:AggAgg) (out:List PanPane),
  l.foldl (fun (a:AggAgg×List PanPane) r=>(aggBoth a.1 r.2.2.1,if told1 r then a.2++[goneP r] else a.2)) (a,out)=(allOf a l,out++(l.filter told1).map goneP):=by
 intro l;induction l with
 | nil=>intro a out;simp [allOf]
 | cons r l ih =>
  intro a out;rw [List.foldl_cons,ih];cases h:told1 r<;>simp [h,allOf]
theorem srt_filter {l:List OpRow} (p:OpRow→Bool) (h:Srt l):Srt (l.filter p):=List.Pairwise.filter p h
theorem pTell_panes (j:JobJob) (s:OpState) (r:OpRow):(pTell j s r).2.length≤1:=by
 simp only [pTell];split<;>simp
theorem s_l7Session_e (j:JobJob) (s:OpState) (x:ItmItem) (w:WinWin) (h:s.2.length≤10000000) (hs:Srt s.2):s_l7Session (j,s,x,w)=some (pSession j s x w):=by
 simp only [s_l7Session,s_AggAdd_e,bd_s];rw [fold_i (S:=WinWin×List OpRow×List OpRow) (A:=JobJob×(OpState×(ItmItem×(WinWin×(OpState×(OpRow×(List OpRow×(List OpRow×Int)))))))) (B:=JobJob×(OpState×(ItmItem×(OpState×(OpRow×(List OpRow×List OpRow)))))) s.2
  (fun a r=>if isT x w r then (winSpan a.1 r.2.1,a.2.1,a.2.2++[r]) else (a.1,a.2.1++[r],a.2.2))
  (fun i a=>a.2.1.length≤i∧a.2.2.length≤i)
  (fun a i=>(j,s,x,w,(0,[]),(x.2.2.1,a.1,aggAdd agg0 x.2.2.2.1,aggAdd agg0 x.2.2.2.1,0,false),a.2.1,a.2.2,i))
  (fun a=>(j,s,x,(0,[]),(x.2.2.1,a.1,aggAdd agg0 x.2.2.2.1,aggAdd agg0 x.2.2.2.1,0,false),a.2.1,a.2.2)) (w,[],[]) (by simp) (fun a=>by simp) (fun a i hi hI=>by
  refine ⟨by split<;>simp<;>omega,?_⟩;have g1:(a.2.1.length+1)*104≤140737488355328:=by omega
  have g2:(a.2.2.length+1)*104≤140737488355328:=by omega
  rcases Bool.eq_false_or_eq_true (s.2[i].1==x.2.2.1) with h1|h1<;>rcases Bool.eq_false_or_eq_true (touchW s.2[i].2.1 w) with h2|h2 <;>
   simp only [lt_d hi,ix_t hi,w6_s hi (show s.2.length<1000000000 by omega),bd_s,cnd_t,cnd_f,gd_rf,gd_T,s_WinTouch_e,s_WinSpan_e,isT,List.length_singleton,gd_t g1,gd_t g2,h1,h2,Bool.and_true,Bool.and_false,Bool.true_and,Bool.false_and,if_true,if_false,bfe])]
 rw [fold_sess];have hol:(s.2.filter (isT x w)).length≤10000000:=by
  have:=List.length_filter_le (isT x w) s.2;omega
 have hrl:(s.2.filter (fun r => !isT x w r)).length≤10000000:=by
  have:=List.length_filter_le (fun r => !isT x w r) s.2;omega
 have hrs:=srt_filter (fun r => !isT x w r) hs;simp only [bd_s,pSession,List.nil_append];generalize s.2.filter (isT x w)=old at *;generalize s.2.filter (fun r => !isT x w r)=rest at *;generalize spanOf w old=span at *;cases decide (s.1≥w6 (span.2+j.2.2.2.2.2.1))<;>(try rfl);simp only [cnd_f,bfe,if_false];have hone:∀ (β:Type) (F:Bool→β),(cnd ((old.length:Int)==(1:Int)) (bd (ix old (0:Int)) fun v13:OpRow=>some (F ((v13.2.1.1==span.1)&&((v13.2.1.2==span.2)&&true)))) (some (F false)))=some (F (oneIs old span)):=by
  intro β F
  match old with
  | []=>rfl
  | [o]=>simp [ix,oneIs]
  | a::b::c =>
   have:(((a::b::c).length:Int)==(1:Int))=false:=by
    simp only [List.length_cons,beq_eq_false_iff_ne];omega
   rw [this];rfl
 rw [hone _ (fun b=>((j,s,x,(0,[]),(x.2.2.1,span,aggAdd agg0 x.2.2.2.1,aggAdd agg0 x.2.2.2.1,0,false),rest,old,b):JobJob×(OpState×(ItmItem×(OpState×(OpRow×(List OpRow×(List OpRow×Bool)))))))) ];simp only [bd_s];cases ho:oneIs old span
 ·simp only [cnd_f,bfe,if_false];rw [fold_i (S:=AggAgg×List PanPane) (A:=JobJob×(OpState×(OpState×(OpRow×((List OpRow)×((List OpRow)×((List PanPane)×Int))))))) (B:=JobJob×(OpState×(OpState×(OpRow×((List OpRow)×(List PanPane)))))) old (fun a r=>(aggBoth a.1 r.2.2.1,if told1 r then a.2++[goneP r] else a.2)) (fun i a=>a.2.length≤i)
   (fun a i=>(j,s,(0,[]),(x.2.2.1,span,a.1,aggAdd agg0 x.2.2.2.1,0,false),rest,old,a.2,i))
   (fun a=>(j,s,(0,[]),(x.2.2.1,span,a.1,aggAdd agg0 x.2.2.2.1,0,false),rest,a.2)) (aggAdd agg0 x.2.2.2.1,[]) (by simp) (fun a=>by simp) (fun a i hi hI=>by
   refine ⟨by split<;>(simp only [List.length_append,List.length_singleton];omega),?_⟩;have g1:(a.2.length+1)*72≤140737488355328:=by omega
   rcases Bool.eq_false_or_eq_true (decide (old[i].2.2.2.2.1>0)) with h1|h1 <;>
    simp only [lt_d hi,ix_t hi,w6_s hi (show old.length<1000000000 by omega),bd_s,cnd_t,cnd_f,gd_rf,gd_T,s_AggBoth_e,told1,List.length_singleton,gd_t g1,h1,goneP,if_true,if_false,bfe])]
  rw [fold_gone];have hpl:((old.filter told1).map goneP).length≤10000000:=by
   have:=List.length_filter_le told1 old;simp;omega
  simp only [bd_s,List.nil_append];rw [s_l7Tell_e _ _ _ (show rest.length≤100000000 by omega) hrs];have:=pTell_panes j (s.1,rest) (x.2.2.1,span,allOf (aggAdd agg0 x.2.2.2.1) old,allOf (aggAdd agg0 x.2.2.2.1) old,0,false);simp only [bd_s];rw [gd_t (by omega)]
 ·simp only [cnd_t,if_true];rw [s_l7Into_e _ _ _ _ (by omega) hs];rfl
theorem len_if {α:Type} {c:Prop} [Decidable c] {a b:List α} {n:Nat} (h1:a.length≤n) (h2:b.length≤n):(if c then a else b).length≤n:=by split<;>assumption
theorem len_1 {α:Type} {a:List α} {x:α} {n:Nat} (h:a.length≤n):(a++[x]).length≤n+1:=by simp;exact h
theorem srt_put {l:List OpRow} (r:OpRow) (h:Srt l):Srt (pPut l r):=by
 have h1:=srt_filter (fun x=>ahead x r) h;have h2:=srt_filter (fun x=>ahead r x) h;refine List.pairwise_append.2 ⟨h1,List.pairwise_cons.2 ⟨fun y hy => ?_,h2⟩,fun a ha b hb => ?_⟩
 ·exact (List.mem_filter.1 hy).2
 ·have ha:=(List.mem_filter.1 ha).2;rcases List.mem_cons.1 hb with rfl|hb
  ·exact ha
  ·exact ahead_tr ha (List.mem_filter.1 hb).2
theorem pPut_len1 {l:List OpRow} (r:OpRow):(pPut l r).length≤l.length+1:=by
 simp only [pPut,List.length_append,List.length_cons];have:∀ l:List OpRow,(l.filter fun x=>ahead x r).length+(l.filter fun x=>ahead r x).length≤l.length:=by
  intro l;induction l with
  | nil=>simp
  | cons x l ih =>
   rcases ahead_tri x r with ⟨h1,h2,h3⟩|⟨h1,h2,h3⟩|⟨h1,h2,h3⟩<;>simp [h2,h3]<;>omega
 have:=this l;omega
theorem tell_srt {j:JobJob} {s:OpState} (r:OpRow) (h:Srt s.2):Srt (pTell j s r).1.2∧(pTell j s r).1.2.length≤s.2.length+1∧(pTell j s r).1.1=s.1:=by
 simp only [pTell];split
 ·exact ⟨srt_put _ h,pPut_len1 _,rfl⟩
 ·exact ⟨srt_put _ h,pPut_len1 _,rfl⟩
theorem into_srt {j:JobJob} {s:OpState} (x:ItmItem) (w:WinWin) (h:Srt s.2):Srt (pInto j s x w).1.2∧(pInto j s x w).1.2.length≤s.2.length+1∧(pInto j s x w).1.1=s.1∧(pInto j s x w).2.1.length≤1:=by
 simp only [pInto];split
 ·exact ⟨h,by simp,rfl,by simp⟩
 ·have:=tell_srt (j:=j) (x.2.2.1,w,aggAdd (opFind s x.2.2.1 w).1.2.2.1 x.2.2.2.1,aggAdd (opFind s x.2.2.1 w).1.2.2.2.1 x.2.2.2.1,(opFind s x.2.2.1 w).1.2.2.2.2) h;exact ⟨this.1,this.2.1,this.2.2,pTell_panes ..⟩
theorem sess_srt {j:JobJob} {s:OpState} (x:ItmItem) (w:WinWin) (h:Srt s.2):Srt (pSession j s x w).1.2∧(pSession j s x w).1.2.length≤s.2.length+1∧(pSession j s x w).1.1=s.1∧(pSession j s x w).2.1.length≤s.2.length+1:=by
 simp only [pSession];split
 ·exact ⟨h,by simp,rfl,by simp⟩
 ·split
  ·have:=into_srt (j:=j) x (spanOf w (s.2.filter (isT x w))) h;exact ⟨this.1,this.2.1,this.2.2.1,by omega⟩
  ·have:=tell_srt (j:=j) (s:=(s.1,s.2.filter fun r => !isT x w r)) (x.2.2.1,spanOf w (s.2.filter (isT x w)),allOf (aggAdd agg0 x.2.2.2.1) (s.2.filter (isT x w)),allOf (aggAdd agg0 x.2.2.2.1) (s.2.filter (isT x w)),0,false) (srt_filter _ h);have h2:=List.length_filter_le (fun r => !isT x w r) s.2;have h3:=List.length_filter_le (isT x w) s.2;have h4:=List.length_filter_le told1 (s.2.filter (isT x w));have h5:=pTell_panes j (s.1,s.2.filter fun r => !isT x w r) (x.2.2.1,spanOf w (s.2.filter (isT x w)),allOf (aggAdd agg0 x.2.2.2.1) (s.2.filter (isT x w)),allOf (aggAdd agg0 x.2.2.2.1) (s.2.filter (isT x w)),0,false);refine ⟨this.1,?_,this.2.2,?_⟩
   ·have:=this.2.1;simp only at this ⊢;omega
   ·simp only [List.length_append,List.length_map];omega
def pWins (j:JobJob) (t:Int):List WinWin :=
 if j.2.2.1==1 then [(t-t.tmod j.2.2.2.1,t-t.tmod j.2.2.2.1+j.2.2.2.1)]
 else if j.2.2.1==3 then [(t,t+j.2.2.2.1)]
 else (((List.range (t/j.2.2.2.2.1+1).toNat).map fun i:Nat=>(i:Int)*j.2.2.2.2.1).filter fun s=>decide (t<s+j.2.2.2.1)).map fun s=>(s,s+j.2.2.2.1)
theorem job_N {j:JobJob} (h:jobOk j=true):(1≤j.2.2.1∧j.2.2.1≤3)∧(1≤j.2.2.2.1∧j.2.2.2.1≤20)∧(0≤j.2.2.2.2.2.1∧j.2.2.2.2.2.1≤20)∧(j.2.2.1=2→1≤j.2.2.2.2.1∧j.2.2.2.2.1≤j.2.2.2.1∧j.2.2.2.1≤4*j.2.2.2.2.1)∧(-9≤j.2.2.2.2.2.2.2.2.1∧j.2.2.2.2.2.2.2.2.1≤9):=by
 simp only [jobOk,bae,inR_iff] at h;obtain ⟨⟨⟨⟨⟨⟨⟨⟨h1,h2⟩,h3⟩,h4⟩,h5⟩,h6⟩,h7⟩,h8⟩,h9⟩:=h;refine ⟨h3,h4,h6,fun hk => ?_,h8⟩;have hk':(j.2.2.1==(2:Int))=true:=by simpa using hk
 simp only [hk',if_true,bae,inR_iff,dte] at h5;have:=h5.2;rw [w6_id (by omega) (by omega)] at this;exact ⟨h5.1.1,h5.1.2,this⟩
theorem fold_fm (p:Int→Bool) (g:Int→WinWin):∀ (l:List Nat) (st:Int) (o:List WinWin),l.foldl (fun o (i:Nat)=>if p ((i:Int)*st) then o++[g ((i:Int)*st)] else o) o=o++((l.map fun i:Nat=>(i:Int)*st).filter p).map g:=by
 intro l;induction l with
 | nil=>intro st o;simp
 | cons i l ih =>
  intro st o;rw [List.foldl_cons,ih];cases h:p ((i:Int)*st)<;>simp [h]
theorem s_l4Of_e (j:JobJob) (t:Int) (hj:jobOk j=true) (h0:0≤t) (h1:t≤60):s_l4Of (j,t)=some (pWins j t):=by
 obtain ⟨hk,hz,hl,hst,_⟩:=job_N hj;simp only [s_l4Of,pWins];by_cases k1:j.2.2.1=1
 ·have k1':(j.2.2.1==(1:Int))=true:=by simpa using k1
  have ht:=tm h0 hz.1;simp only [k1',cnd_t,if_true];rw [w6_id (n:=t-t.tmod j.2.2.2.1) (by omega) (by omega),w6_id (by omega) (by omega),gd_t (by omega),gd_t (by omega)];rfl
 ·have k1':(j.2.2.1==(1:Int))=false:=by simpa using k1
  by_cases k3:j.2.2.1=3
  ·have k3':(j.2.2.1==(3:Int))=true:=by simpa using k3
   simp only [k1',k3',cnd_t,cnd_f,if_true,bfe,if_false];rw [w6_id (by omega) (by omega)];rfl
  ·have k3':(j.2.2.1==(3:Int))=false:=by simpa using k3
   obtain ⟨s1,s2,s3⟩:=hst (by omega);simp only [k1',k3',cnd_f,bfe,if_false,bd_s,cs_r];have hn0:0≤t/j.2.2.2.2.1:=Int.ediv_nonneg h0 (by omega);have hmul:∀ i:Nat,i<(t/j.2.2.2.2.1+1).toNat→0≤(i:Int)*j.2.2.2.2.1∧(i:Int)*j.2.2.2.2.1≤t:=by
    intro i hi;refine ⟨Int.mul_nonneg (by omega) (by omega),?_⟩;have:(i:Int)≤t/j.2.2.2.2.1:=by omega
    exact (Int.le_ediv_iff_mul_le (by omega)).1 this
   have hend:t<(((t/j.2.2.2.2.1+1).toNat:Nat):Int)*j.2.2.2.2.1:=by
    rw [Int.toNat_of_nonneg (by omega)];exact Int.lt_ediv_add_one_mul_self t (by omega)
   have hnle:(t/j.2.2.2.2.1+1).toNat≤61:=by
    have:t/j.2.2.2.2.1≤t:=Int.ediv_le_self _ h0;omega
   generalize (t/j.2.2.2.2.1+1).toNat=n at *;have e:=fold_i (A:=JobJob×(List (Int×Int)×Int)) (B:=List (Int×Int)) (List.range n) (fun (o:List WinWin) (i:Nat)=>if decide (t<(i:Int)*j.2.2.2.2.1+j.2.2.2.1) then o++[((i:Int)*j.2.2.2.2.1,(i:Int)*j.2.2.2.2.1+j.2.2.2.1)] else o) (fun i o=>o.length≤i)
    (f:=fun v4=>(cnd (decide (v4.2.2≤t)) (bd (α:=(JobJob×(List (Int×Int)))) (cnd (decide (t<(w6 (v4.2.2+v4.1.2.2.2.1)))) (gd ((v4.2.1.length+[(v4.2.2,(w6 (v4.2.2+v4.1.2.2.2.1)))].length)*16≤140737488355328) (some (v4.1,(v4.2.1++[(v4.2.2,(w6 (v4.2.2+v4.1.2.2.2.1)))])))) (some (v4.1,v4.2.1))) fun (v5:(JobJob×(List (Int×Int))))=>(some (.inl (v5.1,v5.2,(w6 (v4.2.2+v5.1.2.2.2.2.1)))))) (some (.inr v4.2.1))))
    (fun o i=>(j,o,i*j.2.2.2.2.1)) (fun o=>o) [] (by simp) (fun o=>by
     have:decide ((((List.range n).length:Nat):Int)*j.2.2.2.2.1≤t)=false:=by
      simp only [List.length_range,decide_eq_false_iff_not];omega
     simp only [this,cnd_f]) (fun o i hi hI=>by
     simp only [List.length_range] at hi;obtain ⟨m1,m2⟩:=hmul i hi;have hm:((i:Int)+1)*j.2.2.2.2.1=(i:Int)*j.2.2.2.2.1+j.2.2.2.2.1:=by rw [Int.add_mul,Int.one_mul]
     simp only [List.getElem_range,hm];refine ⟨len_if (len_1 hI) (by omega),?_⟩;have w1:w6 ((i:Int)*j.2.2.2.2.1+j.2.2.2.1)=(i:Int)*j.2.2.2.2.1+j.2.2.2.1:=w6_id (by omega) (by omega);have w2:w6 ((i:Int)*j.2.2.2.2.1+j.2.2.2.2.1)=(i:Int)*j.2.2.2.2.1+j.2.2.2.2.1:=w6_id (by omega) (by omega);have hd:decide ((i:Int)*j.2.2.2.2.1≤t)=true:=by simpa using m2
     simp only [hd,w1,cnd_t,List.length_singleton,gd_t (show (o.length+1)*16≤140737488355328 by omega)];cases decide (t<(i:Int)*j.2.2.2.2.1+j.2.2.2.1)<;>simp [w2])
   simp only [Int.zero_mul] at e;rw [e];simp only [bd_s];rw [fold_fm (fun s=>decide (t<s+j.2.2.2.1)) (fun s=>(s,s+j.2.2.2.1))];simp
theorem pWins_len (j:JobJob) (t:Int) (h0:0≤t) (h1:t≤60):(pWins j t).length≤61∨j.2.2.2.2.1≤0:=by
 by_cases hs:0<j.2.2.2.2.1
 ·left;simp only [pWins];split
  ·simp
  ·split
   ·simp
   ·rw [List.length_map];refine Nat.le_trans (List.length_filter_le _ _) ?_;rw [List.length_map,List.length_range];have:t/j.2.2.2.2.1≤t:=Int.ediv_le_self _ h0;omega
 ·right;omega
theorem pWins_l (j:JobJob) (t:Int) (hj:jobOk j=true) (h0:0≤t) (h1:t≤60):(pWins j t).length≤61:=by
 obtain ⟨hk,hz,hl,hst,_⟩:=job_N hj;by_cases k2:j.2.2.1=2
 ·rcases pWins_len j t h0 h1 with h|h
  ·exact h
  ·have:=hst k2;omega
 ·simp only [pWins];by_cases k1:j.2.2.1=1
  ·simp [k1]
  ·have:j.2.2.1=3:=by omega
   simp [this]
def takeG (j:JobJob) (x:ItmItem) (a:OpState×List PanPane×List LatPair) (w:WinWin):OpState×List PanPane×List LatPair :=
 let t:=if j.2.2.1==3 then pSession j a.1 x w else pInto j a.1 x w
 (t.1,a.2.1++t.2.1,if t.2.2 then a.2.2 else a.2.2++[(x,w)])
def pTake (j:JobJob) (s:OpState) (x:ItmItem):OpState×List PanPane×List LatPair:=(pWins j x.2.1).foldl (takeG j x) (s,[],[])
theorem takeG_srt {j:JobJob} {x:ItmItem} {a:OpState×List PanPane×List LatPair} (w:WinWin) (h:Srt a.1.2):Srt (takeG j x a w).1.2∧(takeG j x a w).1.2.length≤a.1.2.length+1∧(takeG j x a w).1.1=a.1.1∧(takeG j x a w).2.1.length≤a.2.1.length+a.1.2.length+1∧(takeG j x a w).2.2.length≤a.2.2.length+1:=by
 simp only [takeG];have h1:=into_srt (j:=j) x w h;have h2:=sess_srt (j:=j) x w h;split
 ·refine ⟨h2.1,h2.2.1,h2.2.2.1,by simp only [List.length_append];omega,?_⟩;split<;>simp
 ·refine ⟨h1.1,h1.2.1,h1.2.2.1,by simp only [List.length_append];omega,?_⟩;split<;>simp
theorem s_l7Take_e (j:JobJob) (s:OpState) (x:ItmItem) (hj:jobOk j=true) (h0:0≤x.2.1) (h1:x.2.1≤60) (h:s.2.length≤1000000) (hs:Srt s.2):s_l7Take (j,s,x)=some (pTake j s x):=by
 have hw:=pWins_l j x.2.1 hj h0 h1;simp only [s_l7Take,s_l4Of_e j _ hj h0 h1,bd_s,pTake];generalize pWins j x.2.1=l at *;rw [fold_i (S:=OpState×List PanPane×List LatPair) (A:=JobJob×(OpState×(ItmItem×(OpState×(List PanPane×(List LatPair×(List (Int×Int)×Int))))))) (B:=OpState×(OpState×(List PanPane×List LatPair))) l (takeG j x)
  (fun i a=>Srt a.1.2∧a.1.2.length≤1000000+i∧a.2.1.length≤1100000*i∧a.2.2.length≤i)
  (fun a i=>(j,a.1,x,(0,[]),a.2.1,a.2.2,l,i)) (fun a=>(a.1,(0,[]),a.2.1,a.2.2)) (s,[],[]) ⟨hs,by simpa using h,by simp,by simp⟩ (fun a=>by simp) (fun a i hi hI=>by
  obtain ⟨i1,i2,i3,i4⟩:=hI;have hg:=takeG_srt (j:=j) (x:=x) l[i] i1;refine ⟨⟨hg.1,by omega,by omega,by omega⟩,?_⟩;simp only [lt_d hi,ix_t hi,w6_s hi (show l.length<1000000000 by omega),bd_s,cnd_t,bd_cnd,gd_rf,s_l7Session_e _ _ _ _ (show a.1.2.length≤10000000 by omega) i1,s_l7Into_e _ _ _ _ (show a.1.2.length≤100000000 by omega) i1,List.length_singleton,takeG] at hg ⊢;have g1:(a.2.2.length+1)*56≤140737488355328:=by omega
  simp only [gd_t g1];cases hk:j.2.2.1==3
  ·simp only [hk,bfe,if_false,List.length_append,cnd_f] at hg ⊢;rw [gd_t (show (a.2.1.length+(pInto j a.1 x l[i]).2.1.length)*72≤140737488355328 by omega)];cases (pInto j a.1 x l[i]).2.2<;>simp
  ·simp only [hk,if_true,List.length_append,cnd_t] at hg ⊢;rw [gd_t (show (a.2.1.length+(pSession j a.1 x l[i]).2.1.length)*72≤140737488355328 by omega)];cases (pSession j a.1 x l[i]).2.2<;>simp)]
 rfl
def tells (m:Int) (r:OpRow):Bool := !r.2.2.2.2.2&&decide (m≥r.2.1.2)
def toldR (r:OpRow):OpRow:=(r.1,r.2.1,r.2.2.1,agg0,w6 (r.2.2.2.2.1+1),true)
def markR (m:Int) (r:OpRow):OpRow:=if tells m r then toldR r else r
def keepR (j:JobJob) (m:Int) (r:OpRow):Bool:=decide (m<w6 (r.2.1.2+j.2.2.2.2.2.1))
def pMark (j:JobJob) (s:OpState) (m:Int):OpState×List PanPane :=
 if decide (m≤s.1) then (s,[]) else ((m,(s.2.map (markR m)).filter (keepR j m)),(s.2.filter (tells m)).map fun r=>opPane j r 1)
theorem fold_mark (j:JobJob) (m:Int):∀ (l:List OpRow) (o:List PanPane) (q:List OpRow),
  l.foldl (fun (a:List PanPane×List OpRow) r=>(if tells m r then a.1++[opPane j r 1] else a.1,if keepR j m (markR m r) then a.2++[markR m r] else a.2)) (o,q)=(o++(l.filter (tells m)).map (fun r=>opPane j r 1),q++(l.map (markR m)).filter (keepR j m)):=by
 intro l;induction l with
 | nil=>intro o q;simp
 | cons r l ih =>
  intro o q;rw [List.foldl_cons,ih];cases h1:tells m r<;>cases h2:keepR j m (markR m r)<;>simp [h1,h2]
theorem s_l7Mark_e (j:JobJob) (s:OpState) (m:Int) (h:s.2.length≤10000000):s_l7Mark (j,s,m)=some (pMark j s m):=by
 simp only [s_l7Mark,pMark];cases decide (m≤s.1)
 ·simp only [cnd_f,bfe,if_false];rw [fold_i (S:=List PanPane×List OpRow) (A:=JobJob×(OpState×(OpState×(List PanPane×(List OpRow×Int))))) (B:=OpState×(OpState×(List PanPane×List OpRow))) s.2
   (fun a r=>(if tells m r then a.1++[opPane j r 1] else a.1,if keepR j m (markR m r) then a.2++[markR m r] else a.2))
   (fun i a=>a.1.length≤i∧a.2.length≤i)
   (fun a i=>(j,(m,s.2),(0,[]),a.1,a.2,i)) (fun a=>((m,s.2),(0,[]),a.1,a.2)) ([],[]) (by simp) (fun a=>by simp) (fun a i hi hI=>by
   refine ⟨⟨len_if (len_1 hI.1) (by omega),len_if (len_1 hI.2) (by omega)⟩,?_⟩;have g1:(a.1.length+1)*72≤140737488355328:=by omega
   have g2:(a.2.length+1)*104≤140737488355328:=by omega
   simp only [lt_d hi,ix_t hi,w6_s hi (show s.2.length<1000000000 by omega),bd_s,cnd_t,bd_cnd,s_l7Pane_e,List.length_singleton,gd_t g1,gd_t g2,tells,markR,keepR,toldR];rcases Bool.eq_false_or_eq_true s.2[i].2.2.2.2.2 with h1|h1<;>rcases Bool.eq_false_or_eq_true (decide (m≥s.2[i].2.1.2)) with h2|h2<;>rcases Bool.eq_false_or_eq_true (decide (m<w6 (s.2[i].2.1.2+j.2.2.2.2.2.1))) with h3|h3<;>simp [h1,h2,h3])]
  rw [fold_mark];simp
 ·rfl
theorem upd_set {α:Type} {l:List α} {n:Nat} (x:α) (h:n<l.length):l.take n++x::l.drop (n+1)=l.set n x:=by
 rw [List.set_eq_take_append_cons_drop,if_pos h]
theorem upd_self {α:Type} {l:List α} {n:Nat} (h:n<l.length):l.take n++l[n]::l.drop (n+1)=l:=by
 rw [upd_set _ h,List.set_getElem_self]
theorem ix_n {α:Type} {l:List α} {i:Int} {n:Nat} (hi:i=n) (h:n<l.length):ix l i=some l[n]:=by
 subst hi;exact ix_t h
abbrev tskZ:TskTask:=([],(0,[]),0,0,[],[])
abbrev tOp (t:TskTask):OpState:=t.2.1
abbrev tWall (t:TskTask):Int:=t.2.2.1
abbrev tPend (t:TskTask):TskTxn:=t.2.2.2
def smT (t:TskTask):Prop:=t.2.1.2.length≤1000000∧t.2.2.2.2.1.length≤1000000∧t.2.2.2.2.2.length≤1000000∧t.1.length≤1000000∧∀ c,c∈t.1→c.1.length≤1000000
theorem s_l7Copy_e (s:OpState) (h:s.2.length≤1000000000):s_l7Copy s=some s:=by
 simp only [s_l7Copy,Nat.zero_add,List.nil_append];rw [gd_t (by omega)]
theorem s_l8CopyTxn_e (x:TskTxn) (h1:x.2.1.length≤1000000000) (h2:x.2.2.length≤1000000000):s_l8CopyTxn x=some x:=by
 simp only [s_l8CopyTxn,Nat.zero_add,List.nil_append];rw [gd_t (by omega),gd_t (by omega)]
theorem s_l8CopyTxn_ve (x:TskTxn) (h1:x.2.1.length≤1000000000) (h2:x.2.2.length≤1000000000):s_l8CopyTxn_v x=some x:=s_l8CopyTxn_e x h1 h2
theorem fold_app {α:Type}:∀ (l:List α) (o:List α),l.foldl (fun o x=>o++[x]) o=o++l:=by
 intro l;induction l with
 | nil=>intro o;simp
 | cons x l ih=>intro o;rw [List.foldl_cons,ih];simp
theorem s_l8Copy_e (t:TskTask) (h:smT t):s_l8Copy t=some t:=by
 obtain ⟨h1,h2,h3,h4,h5⟩:=h;simp only [s_l8Copy,s_l7Copy_e _ (show t.2.1.2.length≤1000000000 by omega),s_l8CopyTxn_e _ (show t.2.2.2.2.1.length≤1000000000 by omega) (show t.2.2.2.2.2.length≤1000000000 by omega),bd_s];rw [fold_i (A:=TskTask×(TskTask×(TskTask×Int))) (B:=TskTask×TskTask) t.1 (fun (o:List TskIn) c=>o++[c]) (fun i o=>o.length≤i) (fun o i=>(t,tskZ,(o,t.2),i)) (fun o=>(tskZ,(o,t.2))) [] (by simp) (fun o=>by simp) (fun o i hi hI=>by
  refine ⟨by simp;omega,?_⟩;have:=h5 _ (List.getElem_mem hi);have g1:(t.1[i].1.length)*40≤140737488355328:=by omega
  have g2:(o.length+1)*40≤140737488355328:=by omega
  simp only [lt_d hi,ix_t hi,w6_s hi (show t.1.length<1000000000 by omega),bd_s,cnd_t,Nat.zero_add,List.nil_append,gd_t g1,gd_t g2])]
 rw [fold_app];rfl
def rel1 (c:TskIn):TskIn:=(c.1,c.2.1,false)
def hold1 (c:TskIn):TskIn:=(c.1,c.2.1,true)
def pWall (t:TskTask) (i:Nat) (n:Int):TskTask×List TskTxn :=
 if decide (n<tWall t) then (t,[])
 else
  let ins:=(if decide (n>tWall t) then t.1.map rel1 else t.1).modify i hold1
  if decide (tHeld (ins,t.2)<ins.length) then ((ins,tOp t,n,tPend t),[])
  else ((ins.map rel1,tOp t,n,0,[],[]),[(n,(tPend t).2)])
theorem map_f {α A B:Type} (g:α→α) {f:A→Option (A⊕B)} (st:List α→Int→A) (fin:List α→B) (l:List α) (hn:l.length<1000000000)
  (h0:∀ m:List α,m.length=l.length→f (st m (m.length:Nat))=some (.inr (fin m)))
  (hs:∀ (m:List α) (i:Nat) (h:i<m.length),m.length=l.length→f (st m i)=some (.inl (st (m.set i (g m[i])) ((i:Int)+1)))):iter f (st l 0)=some (fin (l.map g)):=by
 have key:∀ k i:Nat,i+k=l.length→iter f (st ((l.take i).map g++l.drop i) i)=some (fin (l.map g)):=by
  intro k;induction k with
  | zero =>
   intro i h;have e:(l.take i).map g++l.drop i=l.map g:=by
    rw [List.take_of_length_le (by omega),List.drop_of_length_le (by omega)];simp
   have:=h0 (l.map g) (by simp);rw [e,it_u,show i=(l.map g).length by simp;omega,this];rfl
  | succ k ih =>
   intro i h;have hi:i<l.length:=by omega
   have hlen:((l.take i).map g++l.drop i).length=l.length:=by simp;omega
   have hi2:i<((l.take i).map g++l.drop i).length:=by omega
   have hg:((l.take i).map g++l.drop i)[i]=l[i]:=by
    rw [List.getElem_append_right (by simp;omega)];simp [List.getElem_drop,Nat.min_eq_left (Nat.le_of_lt hi)]
   have hset:((l.take i).map g++l.drop i).set i (g l[i])=(l.take (i+1)).map g++l.drop (i+1):=by
    rw [List.set_append_right _ _ (by simp;omega),List.drop_eq_getElem_cons hi];simp only [List.length_map,List.length_take,Nat.min_eq_left (Nat.le_of_lt hi),Nat.sub_self,List.set_cons_zero];rw [List.take_add_one,List.getElem?_eq_getElem hi,List.map_append,List.append_assoc];rfl
   rw [it_u,hs _ i hi2 hlen,hg,hset];simp only [bd_s,cs_l];exact ih (i+1) (by omega)
 have:=key l.length 0 (by omega);simpa using this
theorem rel_f (t:TskTask) (h:t.1.length<1000000000) :
  iter (A:=(TskTask×(TskTask×Int))) (B:=(TskTask×TskTask)) (fun (v1:(TskTask×(TskTask×Int)))=>(cnd (decide (v1.2.2<(v1.1.1.length:Int))) (bd (ix v1.1.1 v1.2.2) fun (v2:TskIn)=>(some (.inl ((((v1.1.1.take (v1.2.2).toNat)++((v2.1,v2.2.1,false)::(v1.1.1.drop ((v1.2.2).toNat+1)))),v1.1.2),v1.2.1,(w6 (v1.2.2+(1:Int))))))) (some (.inr (v1.1,v1.2.1))))) (t,tskZ,(0:Int))=some ((t.1.map rel1,t.2),tskZ):=by
 have:=map_f (A:=TskTask×(TskTask×Int)) (B:=TskTask×TskTask) rel1 (f:=(fun (v1:(TskTask×(TskTask×Int)))=>(cnd (decide (v1.2.2<(v1.1.1.length:Int))) (bd (ix v1.1.1 v1.2.2) fun (v2:TskIn)=>(some (.inl ((((v1.1.1.take (v1.2.2).toNat)++((v2.1,v2.2.1,false)::(v1.1.1.drop ((v1.2.2).toNat+1)))),v1.1.2),v1.2.1,(w6 (v1.2.2+(1:Int))))))) (some (.inr (v1.1,v1.2.1))))))
  (fun m i=>((m,t.2),tskZ,i)) (fun m=>((m,t.2),tskZ)) t.1 h (fun m hm=>by simp) (fun m i hi hm=>by
   simp only [lt_d hi,ix_t hi,w6_s hi (show m.length<1000000000 by omega),bd_s,cnd_t,Int.toNat_natCast];rw [upd_set _ hi];rfl)
 exact this
theorem s_l8Wall_e (t:TskTask) (i:Nat) (n:Int) (hi:i<t.1.length) (h:t.1.length<1000000000):s_l8Wall (t,(i:Int),n)=some (pWall t i n):=by
 simp only [s_l8Wall,pWall];cases hw:decide (n<t.2.2.1)<;>(try rfl);simp only [cnd_f,bfe,if_false];have key:∀ ins:List TskIn,ins.length=t.1.length→(bd (ix ins (i:Int)) fun (v5:TskIn)=>(bd (s_TskHeld (((ins.take ((i:Int)).toNat)++((v5.1,v5.2.1,true)::(ins.drop (((i:Int)).toNat+1)))),t.2.1,n,t.2.2.2)) fun (v6:Int)=>(cnd (decide (v6<(((ins.take ((i:Int)).toNat)++((v5.1,v5.2.1,true)::(ins.drop (((i:Int)).toNat+1)))).length:Int))) (some ((((ins.take ((i:Int)).toNat)++((v5.1,v5.2.1,true)::(ins.drop (((i:Int)).toNat+1)))),t.2.1,n,t.2.2.2),([]:List TskTxn))) (bd (iter (A:=(TskTask×(TskTask×Int))) (B:=(TskTask×TskTask)) (fun (v7:(TskTask×(TskTask×Int)))=>(cnd (decide (v7.2.2<(v7.1.1.length:Int))) (bd (ix v7.1.1 v7.2.2) fun (v8:TskIn)=>(some (.inl ((((v7.1.1.take (v7.2.2).toNat)++((v8.1,v8.2.1,false)::(v7.1.1.drop ((v7.2.2).toNat+1)))),v7.1.2),v7.2.1,(w6 (v7.2.2+(1:Int))))))) (some (.inr (v7.1,v7.2.1))))) ((((ins.take ((i:Int)).toNat)++((v5.1,v5.2.1,true)::(ins.drop (((i:Int)).toNat+1)))),t.2.1,n,t.2.2.2),tskZ,(0:Int))) fun (v9:(TskTask×TskTask))=>(some ((v9.1.1,v9.1.2.1,v9.1.2.2.1,(0:Int),[],[]),([]++[(n,v9.1.2.2.2.2)])))))))
   = some (if decide (tHeld (ins.modify i hold1,t.2)<(ins.modify i hold1).length) then ((ins.modify i hold1,t.2.1,n,t.2.2.2),[]) else (((ins.modify i hold1).map rel1,t.2.1,n,0,[],[]),[(n,t.2.2.2.2)])):=by
  intro ins hins;have hi':i<ins.length:=by omega
  have hm:ins.take i++(ins[i].1,ins[i].2.1,true)::ins.drop (i+1)=ins.modify i hold1:=by
   rw [List.modify_eq_take_cons_drop hi'];rfl
  simp only [ix_t hi',bd_s,Int.toNat_natCast,hm];have hml:(ins.modify i hold1).length<1000000000:=by simp;omega
  rw [s_TskHeld_e (ins.modify i hold1,t.2.1,n,t.2.2.2) hml];simp only [bd_s];rw [rel_f (ins.modify i hold1,t.2.1,n,t.2.2.2) hml];have:tHeld (ins.modify i hold1,t.2.1,n,t.2.2.2)=tHeld (ins.modify i hold1,t.2):=rfl;rw [this];cases decide (tHeld (ins.modify i hold1,t.2)<((ins.modify i hold1).length:Int))<;>rfl
 cases hn:decide (n>t.2.2.1)
 ·have hnw:n=t.2.2.1:=by
   simp only [decide_eq_false_iff_not] at hn hw;omega
  simp only [cnd_f,bd_s,bfe,if_false];have:=key t.1 rfl;rw [hnw] at this ⊢;exact this
 ·simp only [cnd_t,bd_s,rel_f t h,if_true];exact key (t.1.map rel1) (by simp)
def pItem (j:JobJob) (t:TskTask) (i:Nat) (x:ItmItem):TskTask×List TskTxn :=
 if x.1==3 then pWall t i x.2.2.2.2
 else if x.1==2 then
  let ins:=t.1.modify i fun c=>if decide (x.2.1>c.2.1) then (c.1,x.2.1,c.2.2) else c
  let m:=pMark j (tOp t) (tLow (ins,t.2))
  ((ins,m.1,tWall t,(tPend t).1,(tPend t).2.1++m.2,(tPend t).2.2),[])
 else
  let m:=pTake j (tOp t) x
  ((t.1,m.1,tWall t,(tPend t).1,(tPend t).2.1++m.2.1,(tPend t).2.2++m.2.2),[])
def tMay (t:TskTask) (i:Int):Bool :=
 inR i 0 ((t.1.length:Int)-1)&&(match t.1[i.toNat]? with|some c => !c.2.2 && !((c.1.length:Int)==0)|none=>false) && !decide ((t.2.1.2.length:Int)+20>300) && !decide (((tPend t).2.1.length:Int)+300>1500) && !decide (((tPend t).2.2.length:Int)+20>1500)
def pPop (t:TskTask) (i:Nat):TskTask:=(t.1.modify i fun c=>(c.1.drop 1,c.2),t.2)
def headOf (t:TskTask) (i:Nat):ItmItem:=match t.1[i]? with|some c=>c.1.headD (0,0,0,0,0)|none=>(0,0,0,0,0)
def pTskStep (j:JobJob) (t:TskTask) (i:Int):TskTask×List TskTxn×Bool :=
 if !pTsk j t then (tskZ,[],false)
 else if !tMay t i then (t,[],false)
 else
  let r:=pItem j (pPop t i.toNat) i.toNat (headOf t i.toNat)
  (r.1,r.2,true)
theorem pTsk_sm {j:JobJob} {t:TskTask} (h:pTsk j t=true):t.2.1.2.length≤300∧t.2.2.2.2.1.length≤1500∧t.2.2.2.2.2.length≤1500∧t.1.length≤3∧∀ c,c∈t.1→c.1.length≤4:=by
 simp only [pTsk,bae,beq_iff_eq,dte] at h;obtain ⟨⟨⟨⟨⟨⟨⟨h1,h2⟩,h3⟩,h4⟩,h5⟩,h6⟩,h7⟩,h8⟩:=h;have hj:=pOp_job h1;have hs:=(job_S hj).1;have hr:=job_R hj;simp only [pOp,bae,dte] at h1;simp only [pTxn,bae,dte] at h4;refine ⟨by omega,by omega,by omega,by omega,?_⟩;intro c hc;have:=List.all_eq_true.1 h6 c hc;simp only [pIn,bae,dte] at this;omega
theorem smT_of {j:JobJob} {t:TskTask} (h:pTsk j t=true):smT t:=by
 obtain ⟨h1,h2,h3,h4,h5⟩:=pTsk_sm h;exact ⟨by omega,by omega,by omega,by omega,fun c hc=>by have:=h5 c hc;omega⟩
def touchR (a b:OpRow):Bool:=a.1==b.1&&touchW a.2.1 b.2.1
theorem pOp_iff (j:JobJob) (s:OpState):pOp j s=true↔jobOk j=true∧(0≤s.1∧s.1≤1000)∧s.2.length≤300∧(∀ r,r∈s.2→pRow j r s.1=true)∧Srt s.2∧(j.2.2.1=3→s.2.Pairwise fun a b=>touchR a b=false):=by
 simp only [pOp,bae,dte,inR_iff];have hsrt:(∀ i (h:i+1<s.2.length),ahead s.2[i] s.2[i+1]=true)↔Srt s.2:=by
  constructor
  ·intro h;refine List.pairwise_iff_getElem.2 ?_;intro i k hi hk hik;induction k with
   | zero=>omega
   | succ k ih =>
    by_cases e:i=k
    ·subst e;exact h i hk
    ·exact ahead_tr (ih (by omega) (by omega)) (h k hk)
  ·intro h i hi;exact List.pairwise_iff_getElem.1 h i (i+1) (by omega) hi (by omega)
 constructor
 ·rintro ⟨⟨⟨h1,h2⟩,h3⟩,h4⟩;simp only [List.all_eq_true,List.mem_range] at h4;refine ⟨h1,h2,by omega,?_,?_,?_⟩
  ·intro r hr;obtain ⟨i,hi,rfl⟩:=List.mem_iff_getElem.1 hr;have:=h4 i hi;simp only [pAt,List.getElem?_eq_getElem hi,bae] at this;exact this.1.1
  ·rw [← hsrt];intro i hi;have:=h4 (i+1) hi;have e:s.2[i]? = some s.2[i]:=List.getElem?_eq_getElem (by omega);simp only [pAt,List.getElem?_eq_getElem hi,e,bae] at this;exact this.1.2
  ·intro hk;refine List.pairwise_iff_getElem.2 ?_;intro i k hi hk' hik;have:=h4 k hk';have e3:(j.2.2.1==(3:Int))=true:=by simpa using hk
   simp only [pAt,List.getElem?_eq_getElem hk',bae,e3,Bool.true_and,Bool.not_eq_true'] at this;have h5:=this.2;rw [List.any_eq_false] at h5;have hm:s.2[i]∈s.2.take k:=by
    rw [List.mem_take_iff_getElem];exact ⟨i,by omega,rfl⟩
   have:=h5 _ hm;simpa [touchR] using this
 ·rintro ⟨h1,h2,h3,h4,h5,h6⟩;refine ⟨⟨⟨h1,h2⟩,by omega⟩,?_⟩;simp only [List.all_eq_true,List.mem_range];intro i hi;have a:=h4 _ (List.getElem_mem hi);simp only [pAt,List.getElem?_eq_getElem hi,bae,a,true_and];refine ⟨?_,?_⟩
  ·cases i with
   | zero=>rfl
   | succ k =>
    have e:s.2[k]? = some s.2[k]:=List.getElem?_eq_getElem (by omega);simp only [e];exact hsrt.2 h5 k hi
  ·by_cases hk:j.2.2.1=3
   ·have e3:(j.2.2.1==(3:Int))=true:=by simpa using hk
    simp only [e3,Bool.true_and,Bool.not_eq_true',List.any_eq_false];intro o ho;obtain ⟨k,hk',rfl⟩:=List.mem_take_iff_getElem.1 ho;have:=List.pairwise_iff_getElem.1 (h6 hk) k i (by omega) hi (by omega);simpa [touchR] using this
   ·have e3:(j.2.2.1==(3:Int))=false:=by simpa using hk
    simp [e3]
theorem pTsk_op {j:JobJob} {t:TskTask} (h:pTsk j t=true):pOp j t.2.1=true:=by
 simp only [pTsk,bae] at h;exact h.1.1.1.1.1.1.1
theorem pTsk_srt {j:JobJob} {t:TskTask} (h:pTsk j t=true):Srt t.2.1.2:=((pOp_iff _ _).1 (pTsk_op h)).2.2.2.2.1
theorem mod_set {α:Type} (l:List α) (n:Nat) (g:α→α) (h:n<l.length):l.modify n g=l.set n (g l[n]):=by
 rw [List.modify_eq_take_cons_drop h,upd_set _ h]
theorem pTake_len {j:JobJob} {x:ItmItem}:∀ (l:List WinWin) (a:OpState×List PanPane×List LatPair),Srt a.1.2→(l.foldl (takeG j x) a).1.2.length≤a.1.2.length+l.length∧(l.foldl (takeG j x) a).2.1.length≤a.2.1.length+(a.1.2.length+l.length+1)*l.length∧(l.foldl (takeG j x) a).2.2.length≤a.2.2.length+l.length∧Srt (l.foldl (takeG j x) a).1.2∧(l.foldl (takeG j x) a).1.1=a.1.1:=by
 intro l;induction l with
 | nil=>intro a h;simp [h]
 | cons w l ih =>
  intro a h;have hg:=takeG_srt (j:=j) (x:=x) w h;obtain ⟨i1,i2,i3,i4,i5⟩:=ih _ hg.1;rw [List.foldl_cons];simp only [List.length_cons];refine ⟨by omega,?_,by omega,i4,by rw [i5,hg.2.2.1]⟩;have e1:(a.1.2.length+(l.length+1)+1)*(l.length+1)=(a.1.2.length+(l.length+1)+1)*l.length+(a.1.2.length+(l.length+1)+1):=by rw [Nat.mul_succ]
  have e2:((takeG j x a w).1.2.length+l.length+1)*l.length≤(a.1.2.length+(l.length+1)+1)*l.length:=Nat.mul_le_mul_right _ (by omega);omega
structure RecP (x:ItmItem):Prop where
 kind:x.1=1
 t:0≤x.2.1∧x.2.1≤60
 key:0≤x.2.2.1∧x.2.2.1≤3
 v : -9≤x.2.2.2.1∧x.2.2.2.1≤9
 n:x.2.2.2.2=0
theorem recP_iff {x:ItmItem}:RecP x↔x.1=1∧itmOk x=true:=by
 constructor
 ·intro h;refine ⟨h.kind,?_⟩;simp only [itmOk,h.kind,beq_self_eq_true,if_true,bae,inR_iff,beq_iff_eq];exact ⟨⟨⟨h.t,h.key⟩,h.v⟩,h.n⟩
 ·rintro ⟨h1,h2⟩;simp only [itmOk,h1,beq_self_eq_true,if_true,bae,inR_iff,beq_iff_eq] at h2;exact ⟨h1,h2.1.1.1,h2.1.1.2,h2.1.2,h2.2⟩
theorem s_l8Item_e (j:JobJob) (t:TskTask) (i:Nat) (x:ItmItem) (hj:jobOk j=true) (hx:itmOk x=true) (hi:i<t.1.length) (h:smT t) (hs:Srt t.2.1.2):s_l8Item (j,t,(i:Int),x)=some (pItem j t i x):=by
 obtain ⟨h1,h2,h3,h4,h5⟩:=h;have hil:t.1.length<1000000000:=by omega
 simp only [s_l8Item,pItem];cases k3:x.1==(3:Int)
 rotate_left
 ·simp only [cnd_t,if_true,s_l8Wall_e t i _ hi hil,bd_s]
 simp only [cnd_f,bfe,if_false];cases k2:x.1==(2:Int)
 ·have hr:RecP x:=by
   refine recP_iff.2 ⟨?_,hx⟩;by_cases k1:x.1=1
   ·exact k1
   ·have k1':(x.1==(1:Int))=false:=by simpa using k1
    simp only [itmOk,k1',k2,k3,bfe,if_false,Bool.false_and] at hx
  have hp:=pTake_len (j:=j) (x:=x) (pWins j x.2.1) (t.2.1,[],[]) hs;have hw:=pWins_l j x.2.1 hj hr.t.1 hr.t.2;have hm:(t.2.1.2.length+(pWins j x.2.1).length+1)*(pWins j x.2.1).length≤(t.2.1.2.length+62)*61:=Nat.mul_le_mul (by omega) hw;simp only [List.length_nil,Nat.zero_add] at hp;simp only [cnd_f,bfe,if_false,s_l7Take_e j _ _ hj hr.t.1 hr.t.2 h1 hs,bd_s];have hp2:=hp.2.1;have hp3:=hp.2.2.1;have e1:(pTake j t.2.1 x).2.1.length≤(t.2.1.2.length+62)*61:=by simp only [pTake];omega
  have e2:(pTake j t.2.1 x).2.2.length≤61:=by simp only [pTake];omega
  rw [gd_t (by omega),gd_t (by omega)]
 ·simp only [cnd_t,if_true,ix_t hi,bd_s];have hmod:∀ g:TskIn→TskIn,t.1.take i++g t.1[i]::t.1.drop (i+1)=t.1.modify i g:=fun g=>(List.modify_eq_take_cons_drop hi).symm
  have key:∀ ins:List TskIn,ins.length=t.1.length→(bd (s_TskLow (ins,t.2)) fun (v5:Int)=>(bd (s_l7Mark (j,t.2.1,v5)) fun (v6:(OpState×(List PanPane)))=>(some ((ins,v6.1,t.2.2),(tskZ:TskTask),v6.2,([]:List LatPair)))))=some ((ins,(pMark j t.2.1 (tLow (ins,t.2))).1,t.2.2),tskZ,(pMark j t.2.1 (tLow (ins,t.2))).2,[]):=by
   intro ins he;rw [s_TskLow_e (ins,t.2) (by simp only;omega)];simp only [bd_s];rw [s_l7Mark_e j t.2.1 _ (by omega)];rfl
  have hpl:∀ m,(pMark j t.2.1 m).2.length≤t.2.1.2.length:=by
   intro m;simp only [pMark];split
   ·simp
   ·simp only [List.length_map];exact List.length_filter_le _ _
  cases hd:decide (x.2.1>t.1[i].2.1)
  ·have em:(t.1.modify i fun c=>if decide (x.2.1>c.2.1)=true then (c.1,x.2.1,c.2.2) else c)=t.1:=by
    rw [mod_set _ _ _ hi];simp only [hd,bfe,if_false,List.set_getElem_self]
   simp only [cnd_f,bd_s,em];have k:=key t.1 rfl;rw [show (t.1,t.2)=t from rfl] at k;rw [k];have:=hpl (tLow t);simp only [bd_s,List.length_nil,Nat.add_zero,List.append_nil];rw [gd_t (by omega),gd_t (by omega)]
  ·have em:(t.1.modify i fun c=>if decide (x.2.1>c.2.1)=true then (c.1,x.2.1,c.2.2) else c)=t.1.take i++(t.1[i].1,x.2.1,t.1[i].2.2)::t.1.drop (i+1):=by
    rw [List.modify_eq_take_cons_drop hi];simp only [hd,if_true]
   simp only [cnd_t,bd_s,Int.toNat_natCast];rw [← em];have k:=key (t.1.modify i fun c=>if decide (x.2.1>c.2.1)=true then (c.1,x.2.1,c.2.2) else c) (by simp);rw [k];have:=hpl (tLow ((t.1.modify i fun c=>if decide (x.2.1>c.2.1)=true then (c.1,x.2.1,c.2.2) else c),t.2));simp only [bd_s,List.length_nil,Nat.add_zero,List.append_nil];rw [gd_t (by omega),gd_t (by omega)]
theorem inR_nat {i:Int} {n:Nat} (h:inR i 0 ((n:Int)-1)=true):∃ k:Nat,i=k∧k<n:=by
 have:=inR_iff.1 h;exact ⟨i.toNat,by omega,by omega⟩
theorem pTsk_item {j:JobJob} {t:TskTask} (h:pTsk j t=true) {c:TskIn} (hc:c∈t.1) {x:ItmItem} (hx:x∈c.1):itmOk x=true:=by
 simp only [pTsk,bae] at h;have:=List.all_eq_true.1 h.1.1.2 c hc;simp only [pIn,bae] at this;exact List.all_eq_true.1 this.2 x hx
theorem s_TskStep_e (j:JobJob) (t:TskTask) (i:Int):s_TskStep (j,t,i)=some (pTskStep j t i):=by
 simp only [s_TskStep,s_TskOk_e,bd_s,pTskStep];cases h:pTsk j t
 ·rfl
 have hsm:=smT_of h;obtain ⟨h1,h2,h3,h4,h5⟩:=pTsk_sm h;simp only [Bool.not_true,cnd_f,s_l8Copy_e t hsm,bd_s,s_l1In_e,bfe,if_false,tMay];rw [w6_id (n:=(t.1.length:Int)-1) (by omega) (by omega)];rcases Bool.eq_false_or_eq_true (inR i 0 ((t.1.length:Int)-1)) with hin|hin
 rotate_left
 ·simp only [hin,Bool.not_false,cnd_t,bd_s,Bool.false_and,if_true]
 obtain ⟨n,rfl,hn⟩:=inR_nat hin;have w1:w6 ((t.2.1.2.length:Int)+20)=(t.2.1.2.length:Int)+20:=w6_id (by omega) (by omega);have w2:w6 ((t.2.2.2.2.1.length:Int)+300)=(t.2.2.2.2.1.length:Int)+300:=w6_id (by omega) (by omega);have w3:w6 ((t.2.2.2.2.2.length:Int)+20)=(t.2.2.2.2.2.length:Int)+20:=w6_id (by omega) (by omega);simp only [hin,Bool.not_true,cnd_f,ix_t hn,bd_s,gd_rf,gd_T,Int.toNat_natCast,upd_self hn,w1,w2,w3,List.getElem?_eq_getElem hn,Bool.true_and];rcases Bool.eq_false_or_eq_true t.1[n].2.2 with hh|hh
 ·simp only [hh,cnd_t,bd_s,Bool.not_true,Bool.false_and,Bool.not_false,if_true]
 rcases Bool.eq_false_or_eq_true (((t.1[n].1.length:Nat):Int)==0) with hl|hl
 ·simp only [hh,hl,cnd_t,cnd_f,bd_s,Bool.not_true,Bool.false_and,Bool.and_false,Bool.not_false,if_true]
 simp only [hh,cnd_f,Bool.not_false,Bool.true_and,hl];rcases Bool.eq_false_or_eq_true (decide ((t.2.1.2.length:Int)+20>300)) with e1|e1
 ·simp only [e1,cnd_t,bd_s,Bool.not_true,Bool.false_and,Bool.not_false,if_true]
 rcases Bool.eq_false_or_eq_true (decide ((t.2.2.2.2.1.length:Int)+300>1500)) with e2|e2
 ·simp only [e1,e2,cnd_t,cnd_f,bd_s,Bool.not_true,Bool.false_and,Bool.and_false,Bool.not_false,if_true]
 rcases Bool.eq_false_or_eq_true (decide ((t.2.2.2.2.2.length:Int)+20>1500)) with e3|e3
 ·simp only [e1,e2,e3,cnd_t,cnd_f,bd_s,Bool.not_true,Bool.false_and,Bool.and_false,Bool.not_false,if_true]
 have hpos:0<t.1[n].1.length:=by
  simp only [beq_eq_false_iff_ne] at hl;omega
 obtain ⟨x,q,hxq⟩:∃ x q,t.1[n].1=x::q:=by
  cases e:t.1[n].1 with
  | nil=>rw [e] at hpos;simp at hpos
  | cons x q=>exact ⟨x,q,rfl⟩
 have hq:q.length<1000:=by
  have:=h5 _ (List.getElem_mem hn);rw [hxq] at this;simp only [List.length_cons] at this;omega
 have hx0:ix (x::q) (0:Int)=some x:=rfl;have hcx:(t.1[n]:TskIn)=(x::q,t.1[n].2):=Prod.ext hxq rfl;have hpop:t.1.take n++(q,t.1[n].2)::t.1.drop (n+1)=(pPop t n).1:=by
  simp only [pPop];rw [List.modify_eq_take_cons_drop hn,hxq];rfl
 have htk:((x::q).drop (1:Int).toNat).take ((x::q).length-(1:Int).toNat)=q:=by
  show ((x::q).drop 1).take ((x::q).length-1)=q;simp
 have g1:(0:Int)≤1:=by omega
 have g2:(1:Int).toNat≤(x::q).length∧(x::q).length≤(x::q).length:=⟨by show 1≤(x::q).length;simp,Nat.le_refl _⟩
 simp only [e1,e2,e3,cnd_t,cnd_f,bd_s,Bool.not_true,Bool.false_and,Bool.and_false,Bool.not_false,Bool.true_and,bfe,if_false,ix_t hn,hxq,hx0,upd_self hn,htk,gd_t g1,gd_t g2,gd_rf,gd_T,Nat.zero_add,List.nil_append,gd_t (show q.length*40≤140737488355328 by omega),hpop];have hsm':smT (pPop t n):=by
  refine ⟨hsm.1,hsm.2.1,hsm.2.2.1,by simp only [pPop,List.length_modify];omega,?_⟩;intro c hc;rw [← hpop] at hc;rcases lma.1 hc with hc|hc
  ·exact hsm.2.2.2.2 c (List.mem_of_mem_take hc)
  ·rcases List.mem_cons.1 hc with rfl|hc
   ·simp only;omega
   ·exact hsm.2.2.2.2 c (List.mem_of_mem_drop hc)
 have hi:=s_l8Item_e j (pPop t n) n x (pOp_job (pTsk_op h)) (pTsk_item h (List.getElem_mem hn) (by rw [hxq];exact List.mem_cons_self ..)) (by simp only [pPop,List.length_modify];exact hn) hsm' (show Srt t.2.1.2 from pTsk_srt h);have hh:headOf t n=x:=by simp only [headOf,List.getElem?_eq_getElem hn,hxq];rfl
 rw [hh];have hpe:((pPop t n).1,t.2)=pPop t n:=rfl;rw [hpe,hi];rfl
def sel (a:Int) (i:Nat):Bool:=decide (a<0)||a==(i:Int)
def putQ (src:Nat) (x:ItmItem) (t:TskTask):TskTask:=(t.1.modify src fun c=>(c.1++[x],c.2),t.2)
def roomAt (f:FloFlow) (src:Nat) (a:Int) (i:Nat):Bool :=
 match (fT f)[i]? with
 | some t => !(sel a i&&(match t.1[src]? with|some c=>decide ((c.1.length:Int)≥f.1.2.2.2.2.2.2.2.2.2)|none=>false))
 | none=>true
def fRoom (f:FloFlow) (src:Nat) (a:Int):Bool:=(List.range (fT f).length).all (roomAt f src a)
def fSend (f:FloFlow) (src:Nat) (a:Int) (x:ItmItem):FloFlow:=(f.1,f.2.1,f.2.2.1,f.2.2.2.1.mapIdx (fun i t=>if sel a i then putQ src x t else t),f.2.2.2.2)
structure SmF (f:FloFlow):Prop where
 tl:f.2.2.2.1.length≤100
 il:∀ t,t∈f.2.2.2.1→t.1.length=f.2.2.1.length
 ql:∀ t,t∈f.2.2.2.1→∀ c,c∈t.1→c.1.length≤100000
 sl:f.2.2.1.length≤100
theorem s_l10Room_e (f:FloFlow) (src:Nat) (a:Int) (h:SmF f) (hs:src<f.2.2.1.length):s_l10Room (f,(src:Int),a)=some (fRoom f src a):=by
 have ht:=h.tl;simp only [s_l10Room,fRoom];rw [all_f (A:=FloFlow×Int) (C:=PUnit) (fun i=>(f,i)) f.2.2.2.1.length (c:=()) (roomAt f src a) (by simp) (fun i hi=>by
  have hil:=h.il _ (List.getElem_mem hi);have hs2:src<f.2.2.2.1[i].1.length:=by omega
  have eg:(f.2.2.2.1[i].1)[src]? = some (f.2.2.2.1[i].1)[src]:=List.getElem?_eq_getElem hs2;simp only [lt_d hi,ix_t hi,ix_t hs2,w6_s hi (show f.2.2.2.1.length<1000000000 by omega),bd_s,bd_cnd,cnd_t,roomAt,sel,List.getElem?_eq_getElem hi,eg];rcases Bool.eq_false_or_eq_true (decide (a<0)) with e1|e1<;>rcases Bool.eq_false_or_eq_true (a==(i:Int)) with e2|e2<;>rcases Bool.eq_false_or_eq_true (decide (((f.2.2.2.1[i].1[src].1.length:Nat):Int)≥f.1.2.2.2.2.2.2.2.2.2)) with e3|e3 <;>
   simp only [e1,e2,e3,cnd_t,cnd_f,bd_s,Bool.true_or,Bool.false_or,Bool.or_self,Bool.true_and,Bool.false_and,Bool.not_true,Bool.not_false,if_true,if_false,bfe])]
 cases (List.range f.2.2.2.1.length).all (roomAt f src a)<;>rfl
theorem mapI_f {α A B:Type} (g:Nat→α→α) {f:A→Option (A⊕B)} (st:List α→Int→A) (fin:List α→B) (l:List α) (hn:l.length<1000000000)
  (h0:∀ m:List α,m.length=l.length→f (st m (m.length:Nat))=some (.inr (fin m)))
  (hs:∀ (m:List α) (i:Nat) (h:i<m.length) (h2:i<l.length),m.length=l.length→m[i]=l[i]→f (st m i)=some (.inl (st (m.set i (g i m[i])) ((i:Int)+1)))):iter f (st l 0)=some (fin (l.mapIdx g)):=by
 have key:∀ k i:Nat,i+k=l.length→iter f (st ((l.mapIdx g).take i++l.drop i) i)=some (fin (l.mapIdx g)):=by
  intro k;induction k with
  | zero =>
   intro i h;have e:(l.mapIdx g).take i++l.drop i=l.mapIdx g:=by
    rw [List.take_of_length_le (by simp;omega),List.drop_of_length_le (by omega)];simp
   have:=h0 (l.mapIdx g) (by simp);rw [e,it_u,show i=(l.mapIdx g).length by simp;omega,this];rfl
  | succ k ih =>
   intro i h;have hi:i<l.length:=by omega
   have hlen:((l.mapIdx g).take i++l.drop i).length=l.length:=by simp;omega
   have hi2:i<((l.mapIdx g).take i++l.drop i).length:=by omega
   have hg:((l.mapIdx g).take i++l.drop i)[i]=l[i]:=by
    rw [List.getElem_append_right (by simp;omega)];simp [List.getElem_drop,Nat.min_eq_left (Nat.le_of_lt hi)]
   have hset:((l.mapIdx g).take i++l.drop i).set i (g i l[i])=(l.mapIdx g).take (i+1)++l.drop (i+1):=by
    rw [List.set_append_right _ _ (by simp;omega),List.drop_eq_getElem_cons hi];simp only [List.length_take,List.length_mapIdx,Nat.min_eq_left (Nat.le_of_lt hi),Nat.sub_self,List.set_cons_zero];rw [List.take_add_one,List.getElem?_mapIdx,List.getElem?_eq_getElem hi,List.append_assoc];rfl
   rw [it_u,hs _ i hi2 hi hlen hg,hg,hset];simp only [bd_s,cs_l];exact ih (i+1) (by omega)
 have:=key l.length 0 (by omega);simpa using this
theorem s_l10Send_e (f:FloFlow) (src:Nat) (a:Int) (x:ItmItem) (h:SmF f) (hs:src<f.2.2.1.length):s_l10Send (f,(src:Int),a,x)=some (fSend f src a x):=by
 have ht:=h.tl;simp only [s_l10Send,fSend];obtain ⟨j,lg,sr,tk,sk⟩:=f;simp only at ht hs ⊢;rw [mapI_f (A:=FloFlow×(ItmItem×(FloFlow×Int))) (B:=FloFlow×FloFlow) (fun i t=>if sel a i then putQ src x t else t)
  (fun m i=>((j,lg,sr,m,sk),x,floZ,i)) (fun m=>((j,lg,sr,m,sk),floZ)) tk (by omega) (fun m hm=>by simp) (fun m i hi hi2 hm hmi=>by
  have hmem:=List.getElem_mem hi2;have hil:=h.il _ hmem;simp only at hil;have hs2:src<m[i].1.length:=by rw [hmi];omega
  have hql:m[i].1[src].1.length≤100000:=(fun t (e:t=tk[i]) c hc=>by subst e;exact h.ql _ hmem c hc:∀ t,t=tk[i]→∀ c,c∈t.1→c.1.length≤100000) m[i] hmi _ (List.getElem_mem hs2);have g1:(m[i].1[src].1.length+1)*40≤140737488355328:=by omega
  simp only [lt_d hi,w6_s hi (show m.length<1000000000 by omega),bd_s,bd_cnd,cnd_t,sel];rcases Bool.eq_false_or_eq_true (decide (a<0)) with e1|e1<;>rcases Bool.eq_false_or_eq_true (a==(i:Int)) with e2|e2 <;>
   simp only [e1,e2,cnd_t,cnd_f,bd_s,ix_t hi,ix_t hs2,gd_rf,gd_T,List.length_singleton,gd_t g1,Int.toNat_natCast,Bool.true_or,Bool.false_or,Bool.or_self,if_true,if_false,bfe,upd_set _ hi,putQ,List.modify_eq_take_cons_drop hs2,List.set_getElem_self])]
 rfl
def fSrc (f:FloFlow) (i:Int):FloFlow :=
 if !inR i 0 (((fS f).length:Int)-1) then f
 else
  let n:=i.toNat
  let s:=(fS f)[n]?.getD (0,0)
  let l:=(fL f)[n]?.getD []
  if (fC f).2.1&&decide (s.2<(fC f).1) then
   if !fRoom f n (-1) then f
   else
    let g:=fSend f n (-1) (3,0,0,0,(fC f).1)
    (g.1,g.2.1,(fS f).set n (s.1,(fC f).1),g.2.2.2.1,g.2.2.2.2.1,(fC f).1,(fC f).2.1,(fC f).2.2.1.set n s.1,(fC f).2.2.2)
  else if s.1==(l.length:Int) then f
  else
   let x:=l[s.1.toNat]?.getD (0,0,0,0,0)
   let a:=if x.1==1 then Int.tmod x.2.2.1 f.1.2.1 else -1
   if x.1==2||decide (x.2.2.2.1≥f.1.2.2.2.2.2.2.2.2.1) then
    if !fRoom f n a then f
    else
     let g:=fSend f n a x
     (g.1,g.2.1,(fS f).set n (w6 (s.1+1),s.2),g.2.2.2)
   else (f.1,f.2.1,(fS f).set n (w6 (s.1+1),s.2),f.2.2.2)
theorem s_l10Src_e (f:FloFlow) (i:Int) (h:SmF f) (hL:f.2.1.length=f.2.2.1.length) (hC:(fC f).2.2.1.length=f.2.2.1.length) (hT:f.1.2.1≠0)
  (hA:∀ (n:Nat) (h1:n<f.2.2.1.length) (h2:n<f.2.1.length),0≤f.2.2.1[n].1∧f.2.2.1[n].1≤f.2.1[n].length∧f.2.1[n].length≤1000):s_l10Src (f,i)=some (fSrc f i):=by
 have hsl:=h.sl;simp only [s_l10Src,s_l1In_e,bd_s,fSrc];rw [w6_id (n:=(f.2.2.1.length:Int)-1) (by omega) (by omega)];rcases Bool.eq_false_or_eq_true (inR i 0 ((f.2.2.1.length:Int)-1)) with hin|hin
 rotate_left
 ·simp only [hin,Bool.not_false,cnd_t,if_true]
 obtain ⟨n,rfl,hn⟩:=inR_nat hin;have hnL:n<f.2.1.length:=by omega
 have hnC:n<f.2.2.2.2.2.2.2.1.length:=by have:=hC;simp only [fC] at this;omega
 obtain ⟨a1,a2,a3⟩:=hA n hn hnL;have es:f.2.2.1[n]?.getD (0,0)=f.2.2.1[n]:=by rw [List.getElem?_eq_getElem hn];rfl
 have el:f.2.1[n]?.getD []=f.2.1[n]:=by rw [List.getElem?_eq_getElem hnL];rfl
 simp only [hin,Bool.not_true,cnd_f,bfe,if_false,Int.toNat_natCast,es,el,ix_t hn,bd_s,bd_cnd];have hsm:∀ a x,s_l10Send (f,(n:Int),a,x)=some (fSend f n a x):=fun a x=>s_l10Send_e f n a x h hn
 have hrm:∀ a,s_l10Room (f,(n:Int),a)=some (fRoom f n a):=fun a=>s_l10Room_e f n a h hn
 have hfs:∀ a x,(fSend f n a x).1=f.1∧(fSend f n a x).2.1=f.2.1∧(fSend f n a x).2.2.1=f.2.2.1∧(fSend f n a x).2.2.2.2=f.2.2.2.2:=fun a x=>⟨rfl,rfl,rfl,rfl⟩
 have wall:(bd (s_l10Room (f,(n:Int),(-1:Int))) fun (v4:Bool)=>(cnd (!v4) (some (Sum.inl (β:=FloFlow×FloFlow) f)) (bd (s_l10Send (f,(n:Int),(-1:Int),(3:Int),(0:Int),(0:Int),(0:Int),f.2.2.2.2.2.1)) fun (v5:FloFlow)=>(bd (ix v5.2.2.1 (n:Int)) fun (v6:WinWin)=>(bd (ix ((v5.2.2.1.take n)++((v6.1,v5.2.2.2.2.2.1)::(v5.2.2.1.drop (n+1)))) (n:Int)) fun (v7:WinWin)=>(bd (ix v5.2.2.2.2.2.2.2.1 (n:Int)) fun (v8:Int)=>(some (Sum.inl (v5.1,v5.2.1,((v5.2.2.1.take n)++((v6.1,v5.2.2.2.2.2.1)::(v5.2.2.1.drop (n+1)))),v5.2.2.2.1,v5.2.2.2.2.1,v5.2.2.2.2.2.1,v5.2.2.2.2.2.2.1,((v5.2.2.2.2.2.2.2.1.take n)++(v7.1::(v5.2.2.2.2.2.2.2.1.drop (n+1)))),v5.2.2.2.2.2.2.2.2))))))))) =
   some (.inl (if !fRoom f n (-1) then f else (f.1,f.2.1,f.2.2.1.set n (f.2.2.1[n].1,f.2.2.2.2.2.1),(fSend f n (-1) (3,0,0,0,f.2.2.2.2.2.1)).2.2.2.1,f.2.2.2.2.1,f.2.2.2.2.2.1,f.2.2.2.2.2.2.1,f.2.2.2.2.2.2.2.1.set n f.2.2.1[n].1,f.2.2.2.2.2.2.2.2))):=by
  rw [hrm,bd_s];cases fRoom f n (-1)
  ·rfl
  ·simp only [Bool.not_true,cnd_f,hsm,bd_s,fSend,ix_t hn,bfe,if_false];have hset:n<(f.2.2.1.set n (f.2.2.1[n].1,f.2.2.2.2.2.1)).length:=by simp;exact hn
   rw [upd_set _ hn,ix_t hset,List.getElem_set_self,bd_s,ix_t hnC,bd_s,upd_set _ hnC]
 have e3:(f.1,f.2.1,f.2.2)=f:=rfl;have hnone:(bd (gd (f.1.2.1≠0) (some f)) fun v=>some v)=some f:=by rw [gd_t hT];rfl
 rcases Bool.eq_false_or_eq_true f.2.2.2.2.2.2.1 with b1|b1<;>rcases Bool.eq_false_or_eq_true (decide (f.2.2.1[n].2<f.2.2.2.2.2.1)) with b2|b2
 ·simp only [b1,b2,cnd_t,Bool.true_and,if_true];rw [wall];simp only [bd_s,cs_l,b1,fC,fS,fSend]
 all_goals
  simp only [b1,b2,cnd_t,cnd_f,bd_s,cs_r,Bool.true_and,Bool.false_and,bfe,if_false,ix_t hn,ix_t hnL,upd_self hnL,e3,gd_rf,gd_T];rcases Bool.eq_false_or_eq_true (f.2.2.1[n].1==(f.2.1[n].length:Int)) with b3|b3
  ·simp only [b3,cnd_t,if_true]
  have hne:f.2.2.1[n].1≠(f.2.1[n].length:Int):=by simpa using b3
  have hk:f.2.2.1[n].1.toNat<f.2.1[n].length:=by omega
  have hx:ix f.2.1[n] f.2.2.1[n].1=some f.2.1[n][f.2.2.1[n].1.toNat]:=ix_n (by omega) hk;have hx2:f.2.1[n][f.2.2.1[n].1.toNat]?.getD (0,0,0,0,0)=f.2.1[n][f.2.2.1[n].1.toNat]:=by rw [List.getElem?_eq_getElem hk];rfl
  simp only [b3,cnd_f,bfe,if_false,hx,hx2,bd_s,gd_t hT];generalize f.2.1[n][f.2.2.1[n].1.toNat]=x;have send:∀ a:Int,(bd (s_l10Room (f,(n:Int),a)) fun v19=>cnd (!v19) (some (Sum.inl f)) (bd (s_l10Send (f,(n:Int),a,x)) fun v20=>some (Sum.inr (α:=FloFlow) (v20,floZ))))=some (if !fRoom f n a then .inl f else .inr (fSend f n a x,floZ)):=by
   intro a;rw [hrm,bd_s];cases fRoom f n a
   ·rfl
   ·simp only [Bool.not_true,cnd_f,hsm,bd_s,bfe,if_false]
  rcases Bool.eq_false_or_eq_true (x.1==(1:Int)) with b4|b4<;>rcases Bool.eq_false_or_eq_true (x.1==(2:Int)) with b5|b5<;>rcases Bool.eq_false_or_eq_true (decide (x.2.2.2.1≥f.1.2.2.2.2.2.2.2.2.1)) with b6|b6 <;>
   simp only [b4,b5,b6,cnd_t,cnd_f,bd_s,cs_r,Bool.true_or,Bool.false_or,Bool.or_true,Bool.or_false,bfe,if_true,if_false,send,ix_t hn,upd_set _ hn]
  all_goals
   first
    | rfl
    | (
      generalize hro:fRoom f n _=ro;cases ro
      ·simp only [Bool.not_false,if_true,bd_s,cs_l]
      ·simp only [Bool.not_true,bfe,if_false,bd_s,cs_r,fSend,ix_t hn,upd_set _ hn])
def openL (r:List TskTxn) (safe:Int):Option TskTxn:=match r.getLast? with|some x=>if decide (x.1>safe) then some x else none|none=>none
theorem last_ix {α:Type} {l:List α} (h2:l.length<1000000):(l=[]∧l.getLast? = none)∨(0<l.length∧∃ x,l.getLast? = some x∧ix l (w6 ((l.length:Int)-1))=some x):=by
 by_cases h:l.length=0
 ·left;have:=List.length_eq_zero_iff.1 h;subst this;exact ⟨rfl,rfl⟩
 ·right;exact ⟨by omega,ix_last (by omega) h2⟩
theorem s_l10Open_e (s:FloSink) (safe:Int) (h:s.1.length<1000000):s_l10Open (s,safe)=some (match openL s.1 safe with|some x=>(x,true)|none=>((0,[],[]),false)):=by
 simp only [s_l10Open,openL];rcases last_ix h with ⟨e1,e2⟩|⟨hp,x,e1,e2⟩
 ·simp only [e1,List.length_nil];rfl
 ·have hd:decide ((s.1.length:Int)>0)=true:=by simp;omega
  simp only [hd,e1,e2,bd_s,cnd_t];cases hx:decide (x.1>safe)<;>simp [hx]
def fullS (r:List TskTxn) (safe:Int) (x:TskTxn):Bool :=
 match openL r safe with
 | none=>(r.length:Int)==12
 | some l=>decide (((l.2.1.length:Int)+x.2.1.length)>1500)||decide (((l.2.2.length:Int)+x.2.2.length)>1500)
def fFull (f:FloFlow) (n:Nat):Bool :=
 fullS ((fK f)[n]?.getD ([],0,[],[])).1 (cSafe (fC f)).1 ((fT f)[n]?.getD tskZ).2.2.2
theorem s_l10Full_e (f:FloFlow) (n:Nat) (h1:n<(fK f).length) (h2:n<(fT f).length) (h3:(fK f)[n].1.length<1000000) (h4:∀ x,x∈(fK f)[n].1→x.2.1.length<1000000∧x.2.2.length<1000000) (h5:(fT f)[n].2.2.2.2.1.length<1000000∧(fT f)[n].2.2.2.2.2.length<1000000):s_l10Full (f,(n:Int))=some (fFull f n):=by
 simp only [fK,fT] at h1 h2 h3 h4 h5;have e1:f.2.2.2.2.1[n]?.getD ([],0,[],[])=f.2.2.2.2.1[n]:=by rw [List.getElem?_eq_getElem h1];rfl
 have e2:f.2.2.2.1[n]?.getD tskZ=f.2.2.2.1[n]:=by rw [List.getElem?_eq_getElem h2];rfl
 simp only [s_l10Full,ix_t h1,ix_t h2,bd_s,s_l10Open_e _ _ h3,fFull,fK,fT,fC,cSafe,e1,e2,fullS];cases ho:openL f.2.2.2.2.1[n].1 f.2.2.2.2.2.2.2.2.2.2.1 with
 | none=>rfl
 | some x =>
  have hx:x∈f.2.2.2.2.1[n].1:=by
   simp only [openL] at ho;cases hl:f.2.2.2.2.1[n].1.getLast? with
   | none=>rw [hl] at ho;cases ho
   | some y =>
    rw [hl] at ho;simp only at ho;split at ho
    ·cases ho;exact List.mem_of_getLast? hl
    ·cases ho
  have:=h4 x hx;simp only [Bool.not_true,cnd_f];rw [w6_id (n:=(x.2.1.length:Int)+f.2.2.2.1[n].2.2.2.2.1.length) (by omega) (by omega),w6_id (n:=(x.2.2.length:Int)+f.2.2.2.1[n].2.2.2.2.2.length) (by omega) (by omega)];cases decide ((x.2.1.length:Int)+f.2.2.2.1[n].2.2.2.2.1.length>1500)<;>rfl
def lastGe (r:List TskTxn) (n:Int):Bool:=match r.getLast? with|some l=>decide (l.1≥n)|none=>false
def pJoined (s:List TskTxn×TskTxn) (safe:Int) (x:TskTxn):List TskTxn :=
 if decide (x.1≤s.2.1)||lastGe s.1 x.1 then s.1
 else match openL s.1 safe with
  | none=>s.1++[x]
  | some l=>s.1.dropLast++[(x.1,l.2.1++x.2.1,l.2.2++x.2.2)]
theorem s_l10Joined_e (s:List TskTxn×TskTxn) (safe:Int) (x:TskTxn) (h:s.1.length<1000000) (h4:∀ x,x∈s.1→x.2.1.length<1000000∧x.2.2.length<1000000) (hx:x.2.1.length<1000000∧x.2.2.length<1000000):s_l10Joined (s,safe,x)=some (pJoined s safe x):=by
 have cx:=s_l8CopyTxn_ve x (by omega) (by omega);simp only [s_l10Joined,pJoined,lastGe,openL,cx,bd_s,bd_cnd];rcases last_ix h with ⟨e1,e2⟩|⟨hp,l,e1,e2⟩
 ·simp only [e1,List.length_nil,List.getLast?_nil];cases decide (x.1≤s.2.1)
  ·have g1:(0+1)*56≤140737488355328:=by omega
   simp [gd_t g1]
  ·rfl
 ·have hd:decide ((s.1.length:Int)>0)=true:=by simp;omega
  have hl:l∈s.1:=List.mem_of_getLast? e1;have hll:=h4 l hl;have cl:=s_l8CopyTxn_e l (by omega) (by omega);have hw:w6 ((s.1.length:Int)-1)=((s.1.length-1:Nat):Int):=by rw [w6_id (by omega) (by omega)];omega
  simp only [hd,e1,e2,bd_s,cnd_t,cnd_f,gd_rf,gd_T,Bool.not_true,Bool.not_false,cl];rcases Bool.eq_false_or_eq_true (decide (x.1≤s.2.1)) with b1|b1
  ·simp only [b1,cnd_t,Bool.true_or,if_true]
  rcases Bool.eq_false_or_eq_true (decide (l.1≥x.1)) with b2|b2
  ·simp only [b1,b2,cnd_t,cnd_f,Bool.false_or,if_true]
  rcases Bool.eq_false_or_eq_true (decide (l.1>safe)) with b3|b3
  ·have ht:(s.1.drop 0).take (w6 ((s.1.length:Int)-1)).toNat=s.1.dropLast:=by
    rw [hw,Int.toNat_natCast,List.drop_zero,List.dropLast_eq_take]
   have g0:0≤w6 ((s.1.length:Int)-1):=by rw [hw];omega
   have g5:0≤(w6 ((s.1.length:Int)-1)).toNat∧(w6 ((s.1.length:Int)-1)).toNat≤s.1.length:=by rw [hw];omega
   have g6:s.1.dropLast.length*56≤140737488355328:=by simp;omega
   have g7:(s.1.dropLast.length+1)*56≤140737488355328:=by simp;omega
   simp only [b1,b2,b3,cnd_t,cnd_f,Bool.false_or,bfe,if_false,if_true,gd_t (show (l.2.1.length+x.2.1.length)*72≤140737488355328 by omega),gd_t (show (l.2.2.length+x.2.2.length)*56≤140737488355328 by omega),gd_t g0,gd_t g5,Nat.zero_add,Nat.sub_zero,List.nil_append,ht,gd_t g6,List.length_singleton,gd_t g7]
  ·simp only [b1,b2,b3,cnd_t,cnd_f,Bool.false_or,bfe,if_false,List.length_singleton,gd_t (show (s.1.length+1)*56≤140737488355328 by omega),cx,bd_s]
def tMarks (t:TskTask):List Int:=t.1.map fun c=>c.2.1
theorem fold_map {α β:Type} (g:α→β):∀ (l:List α) (o:List β),l.foldl (fun o x=>o++[g x]) o=o++l.map g:=by
 intro l;induction l with
 | nil=>intro o;simp
 | cons x l ih=>intro o;rw [List.foldl_cons,ih];simp
theorem s_l10Marks_e (t:TskTask) (h:t.1.length<1000000):s_l10Marks t=some (tMarks t):=by
 simp only [s_l10Marks];rw [fold_i (A:=TskTask×(List Int×Int)) (B:=List Int) t.1 (fun (o:List Int) c=>o++[c.2.1]) (fun i o=>o.length≤i) (fun o i=>(t,o,i)) (fun o=>o) [] (by simp) (fun o=>by simp) (fun o i hi hI=>by
  refine ⟨len_1 hI,?_⟩;have g1:(o.length+1)*8≤140737488355328:=by omega
  simp only [lt_d hi,ix_t hi,w6_s hi (show t.1.length<1000000000 by omega),bd_s,cnd_t,List.length_singleton,gd_t g1])]
 rw [fold_map];simp [tMarks]
theorem wall_txns (t:TskTask) (i:Nat) (n:Int):(pWall t i n).2=[]∨∃ x,(pWall t i n).2=[x]:=by
 simp only [pWall];split
 ·exact .inl rfl
 ·generalize (if decide (n>t.2.2.1)=true then t.1.map rel1 else t.1).modify i hold1=ins;cases decide (tHeld (ins,t.2)<(ins.length:Int))
  ·exact .inr ⟨_,rfl⟩
  ·exact .inl rfl
theorem step_txns (j:JobJob) (t:TskTask) (i:Int):(pTskStep j t i).2.1=[]∨∃ x,(pTskStep j t i).2.1=[x]:=by
 simp only [pTskStep];split
 ·exact .inl rfl
 ·split
  ·exact .inl rfl
  ·simp only [pItem];split
   ·exact wall_txns ..
   ·split<;>exact .inl rfl
def fTask (f:FloFlow) (i c:Int):FloFlow :=
 if !inR i 0 (((fT f).length:Int)-1)||fFull f i.toNat then f
 else
  let n:=i.toNat
  let r:=pTskStep f.1 ((fT f)[n]?.getD tskZ) c
  let s:=(fK f)[n]?.getD ([],0,[],[])
  match r.2.1 with
  | []=>(f.1,f.2.1,f.2.2.1,(fT f).set n r.1,f.2.2.2.2)
  | x::_ =>
   let told:=(fC f).2.1&&x.1==(fC f).1
   (f.1,f.2.1,f.2.2.1,(fT f).set n r.1,(fK f).set n (pJoined s (cSafe (fC f)).1 x,s.2),(fC f).1,(fC f).2.1,(fC f).2.2.1,
    (if told then (fC f).2.2.2.1.set n true else (fC f).2.2.2.1),(if told then (cSnaps (fC f)).set n (r.1.2.1,tMarks r.1) else cSnaps (fC f)),cSafe (fC f))
theorem fTask_out (f:FloFlow) (i c:Int) (h:inR i 0 (((fT f).length:Int)-1)=false):fTask f i c=f:=by
 simp only [fTask,h,Bool.not_false,Bool.true_or,if_true]
theorem s_l10Task_e (f:FloFlow) (i c:Int) (h:SmF f) (hk:(fK f).length=(fT f).length) (hq:(fC f).2.2.2.1.length=(fT f).length) (hs:(cSnaps (fC f)).length=(fT f).length)
  (h3:∀ s,s∈fK f→s.1.length<1000000∧∀ x,x∈s.1→x.2.1.length<1000000∧x.2.2.length<1000000) (h5:∀ t,t∈fT f→t.2.2.2.2.1.length<1000000∧t.2.2.2.2.2.length<1000000)
  (h6:∀ t,t∈fT f→∀ x,x∈(pTskStep f.1 t c).2.1→x.2.1.length<1000000∧x.2.2.length<1000000)
  (h7:∀ t,t∈fT f→(pTskStep f.1 t c).1.2.1.2.length<1000000∧(pTskStep f.1 t c).1.1.length<1000000):s_l10Task (f,i,c)=some (fTask f i c):=by
 have htl:=h.tl;obtain ⟨⟨j1,j2,j3,j4,j5,j6,j7,j8,j9,j10⟩,lg,sr,tk,sk,c1,c2,c3,c4,c5,c6,c7,c8⟩:=f;simp only [fK,fT,fC,cSnaps] at hk hq hs h3 h5 h6 h7 htl;simp only [s_l10Task,s_l1In_e,bd_s];rw [w6_id (n:=(tk.length:Int)-1) (by omega) (by omega)];rcases Bool.eq_false_or_eq_true (inR i 0 ((tk.length:Int)-1)) with hin|hin
 rotate_left
 ·rw [fTask_out _ _ _ hin];simp only [hin,Bool.not_false,cnd_t,bd_s]
 obtain ⟨n,rfl,hn⟩:=inR_nat hin;have hnk:n<sk.length:=by omega
 have hnq:n<c4.length:=by omega
 have hns:n<c5.length:=by omega
 obtain ⟨k1,k2⟩:=h3 _ (List.getElem_mem hnk);have et:tk[n]?.getD tskZ=tk[n]:=by rw [List.getElem?_eq_getElem hn];rfl
 have ek:sk[n]?.getD ([],0,[],[])=sk[n]:=by rw [List.getElem?_eq_getElem hnk];rfl
 simp only [hin,Bool.not_true,cnd_f,s_l10Full_e ((j1,j2,j3,j4,j5,j6,j7,j8,j9,j10),lg,sr,tk,sk,c1,c2,c3,c4,c5,c6,c7,c8) n hnk hn k1 k2 (h5 _ (List.getElem_mem hn)),bd_s,fTask,fT,fK,fC,cSnaps,cSafe,Int.toNat_natCast,Bool.false_or,et,ek];cases hf:fFull ((j1,j2,j3,j4,j5,j6,j7,j8,j9,j10),lg,sr,tk,sk,c1,c2,c3,c4,c5,c6,c7,c8) n
 rotate_left
 ·rfl
 simp only [cnd_f,bfe,if_false,ix_t hn,bd_s,s_TskStep_e,upd_self hn];have t6:=h6 _ (List.getElem_mem hn);have t7:=h7 _ (List.getElem_mem hn);have tx:=step_txns (j1,j2,j3,j4,j5,j6,j7,j8,j9,j10) tk[n] c;generalize pTskStep (j1,j2,j3,j4,j5,j6,j7,j8,j9,j10) tk[n] c=r at *;rcases tx with e|⟨x,e⟩
 ·simp only [e];rw [it_u];have:decide ((0:Int)<(([]:List TskTxn).length:Int))=false:=rfl;simp only [this,cnd_f,bd_s,cs_r,upd_set _ hn]
 ·have hx:=t6 x (by rw [e];exact List.mem_singleton.2 rfl);simp only [e];rw [it_u];have d1:decide ((0:Int)<(([x]:List TskTxn).length:Int))=true:=rfl;have d2:decide ((1:Int)<(([x]:List TskTxn).length:Int))=false:=rfl;have x0:ix [x] (0:Int)=some x:=rfl;have m7:=s_l10Marks_e r.1 t7.2;have o7:=s_l7Copy_e r.1.2.1 (by omega);simp only [d1,cnd_t,ix_t hnk,bd_s,x0,s_l10Joined_e _ _ _ k1 k2 hx,gd_rf,gd_T,bd_cnd];have w01:w6 ((0:Int)+1)=1:=by decide
  cases c2
  ·simp only [cnd_f,bd_s,cs_l,Bool.false_and,bfe,if_false,w01];rw [it_u];simp only [d2,cnd_f,bd_s,cs_r,upd_set _ hn,upd_set _ hnk,Int.toNat_natCast]
  ·rcases Bool.eq_false_or_eq_true (x.1==c1) with b1|b1
   ·simp only [cnd_t,b1,bd_s,cs_l,Bool.true_and,if_true,ix_t hnq,ix_t hns,w01];have o8:s_l7Copy (r.1.2.1.1,r.1.2.1.2)=some r.1.2.1:=o7;have m8:s_l10Marks (r.1.1,(r.1.2.1.1,r.1.2.1.2),r.1.2.2.1,r.1.2.2.2.1,r.1.2.2.2.2.1,r.1.2.2.2.2.2)=some (tMarks r.1):=m7;simp only [o8,m8,bd_s,cs_l];rw [it_u];simp only [d2,cnd_f,bd_s,cs_r,upd_set _ hn,upd_set _ hnk,upd_set _ hnq,upd_set _ hns,Int.toNat_natCast]
   ·simp only [cnd_t,cnd_f,b1,bd_s,cs_l,Bool.true_and,bfe,if_false,w01];rw [it_u];simp only [d2,cnd_f,bd_s,cs_r,upd_set _ hn,upd_set _ hnk,Int.toNat_natCast]
abbrev ckpZ:CkpState:=(0,false,[],[],[],0,[],[])
def smC (c:CkpState):Prop:=c.2.2.1.length≤2000000∧c.2.2.2.1.length≤2000000∧c.2.2.2.2.1.length≤2000000∧(∀ s,s∈c.2.2.2.2.1→s.1.2.length≤2000000∧s.2.length≤2000000)∧c.2.2.2.2.2.2.1.length≤2000000∧c.2.2.2.2.2.2.2.length≤2000000∧(∀ s,s∈c.2.2.2.2.2.2.2→s.1.2.length≤2000000∧s.2.length≤2000000)
theorem smC_sn {c:CkpState} (h:smC c):snSm (cSnaps c):=fun s hs=>by have:=h.2.2.2.1 s hs;exact ⟨by omega,by omega⟩
theorem s_l9CopySnap_e (s:CkpSnap) (h:s.1.2.length≤2000000∧s.2.length≤2000000):s_l9CopySnap s=some s:=by
 simp only [s_l9CopySnap,s_l7Copy_e _ (show s.1.2.length≤1000000000 by omega),bd_s,Nat.zero_add,List.nil_append];rw [gd_t (by omega)]
theorem s_l9CopySnaps_e (l:List CkpSnap) (hl:l.length≤2000000) (h:∀ s,s∈l→s.1.2.length≤2000000∧s.2.length≤2000000):s_l9CopySnaps l=some l:=by
 simp only [s_l9CopySnaps];rw [fold_i (A:=List CkpSnap×Int) (B:=List CkpSnap) l (fun (o:List CkpSnap) c=>o++[c]) (fun i o=>o.length≤i) (fun o i=>(o,i)) (fun o=>o) [] (by simp) (fun o=>by simp) (fun o i hi hI=>by
  refine ⟨len_1 hI,?_⟩;have g1:(o.length+1)*56≤140737488355328:=by omega
  simp only [lt_d hi,ix_t hi,w6_s hi (show l.length<1000000000 by omega),bd_s,cnd_t,s_l9CopySnap_e _ (h _ (List.getElem_mem hi)),gd_t g1])]
 rw [fold_app];rfl
theorem s_l9Copy_e (c:CkpState) (h:smC c):s_l9Copy c=some c:=by
 obtain ⟨h1,h2,h3,h4,h5,h6,h7⟩:=h;simp only [s_l9Copy,s_l9CopySnaps_e _ h3 h4,s_l9CopySnaps_e _ h6 h7,bd_s,Nat.zero_add,List.nil_append];rw [gd_t (by omega),gd_t (by omega),gd_t (by omega)]
abbrev noSnap:CkpSnap:=((0,[]),[])
theorem fold_rep {α:Type} (x:α):∀ (n:Nat) (o:List α),(List.range n).foldl (fun o _=>o++[x]) o=o++List.replicate n x:=by
 intro n;induction n with
 | zero=>intro o;simp
 | succ n ih=>intro o;rw [List.range_succ,List.foldl_append,ih,List.replicate_succ'];simp
theorem s_l9Nobody_e (j:JobJob) (hj:jobOk j=true):s_l9Nobody j=some (List.replicate j.1.toNat (-1),List.replicate j.2.1.toNat false,List.replicate j.2.1.toNat noSnap):=by
 obtain ⟨h1,h2⟩:=job_S hj;simp only [s_l9Nobody];have e1:(j.1.toNat:Int)=j.1:=by omega
 have e2:(j.2.1.toNat:Int)=j.2.1:=by omega
 have b1:j.1.toNat≤3:=by omega
 have b2:j.2.1.toNat≤2:=by omega
 rw [fold_i (A:=JobJob×(List Int×(List Bool×(List CkpSnap×Int)))) (B:=JobJob×(List Int×(List Bool×List CkpSnap))) (List.range j.1.toNat) (fun (o:List Int) _=>o++[-1]) (fun i o=>o.length≤i) (fun o i=>(j,o,[],[],i)) (fun o=>(j,o,[],[])) [] (by simp) (fun o=>by simp [e1]) (fun o i hi hI=>by
  refine ⟨len_1 hI,?_⟩;have hi':i<j.1.toNat:=by simpa using hi
  have g1:(o.length+1)*8≤140737488355328:=by omega
  have hd:decide ((i:Int)<j.1)=true:=by simp;omega
  simp only [hd,w6_s hi' (show j.1.toNat<1000000000 by omega),cnd_t,List.length_singleton,gd_t g1])]
 rw [fold_rep];simp only [bd_s,List.nil_append];rw [fold_i (S:=List Bool×List CkpSnap) (A:=JobJob×(List Int×(List Bool×(List CkpSnap×Int)))) (B:=List Int×(List Bool×List CkpSnap)) (List.range j.2.1.toNat) (fun o _=>(o.1++[false],o.2++[noSnap])) (fun i o=>o.1.length≤i∧o.2.length≤i) (fun o i=>(j,List.replicate j.1.toNat (-1),o.1,o.2,i)) (fun o=>(List.replicate j.1.toNat (-1),o.1,o.2)) ([],[]) (by simp) (fun o=>by simp [e2]) (fun o i hi hI=>by
  refine ⟨⟨len_1 hI.1,len_1 hI.2⟩,?_⟩;have hi':i<j.2.1.toNat:=by simpa using hi
  have g1:(o.1.length+1)*1≤140737488355328:=by omega
  have g2:(o.2.length+1)*56≤140737488355328:=by omega
  have hd:decide ((i:Int)<j.2.1)=true:=by simp;omega
  simp only [hd,w6_s hi' (show j.2.1.toNat<1000000000 by omega),cnd_t,List.length_singleton,gd_t g1,gd_t g2])]
 have:∀ n:Nat,(List.range n).foldl (fun (o:List Bool×List CkpSnap) _=>(o.1++[false],o.2++[noSnap])) ([],[])=(List.replicate n false,List.replicate n noSnap):=by
  intro n;induction n with
  | zero=>rfl
  | succ n ih=>rw [List.range_succ,List.foldl_append,ih,List.replicate_succ',List.replicate_succ'];rfl
 rw [this];rfl
def cDrop (j:JobJob) (c:CkpState):CkpState:=(c.1,false,List.replicate j.1.toNat (-1),List.replicate j.2.1.toNat false,List.replicate j.2.1.toNat noSnap,cSafe c)
theorem s_l9Drop_e (j:JobJob) (c:CkpState) (hj:jobOk j=true):s_l9Drop (j,c)=some (cDrop j c):=by
 simp only [s_l9Drop,s_l9Nobody_e j hj,bd_s,cDrop]
def cAsk (c:CkpState):CkpState:=if !c.2.1&&decide (c.1<900) then (w6 (c.1+1),true,c.2.2) else c
def pCkpAsk (j:JobJob) (c:CkpState):CkpState:=if !pCkp j c then ckpZ else cAsk c
theorem s_CkpAsk_e (j:JobJob) (c:CkpState) (h:smC c):s_CkpAsk (j,c)=some (pCkpAsk j c):=by
 simp only [s_CkpAsk,s_CkpOk_e _ _ (smC_sn h),s_l9Copy_e c h,bd_s,pCkpAsk,cAsk];cases pCkp j c<;>(try rfl);cases c.2.1<;>(try rfl);cases decide (c.1<900)<;>rfl
def cReady (c:CkpState):Bool:=c.2.2.1.all (fun n => !decide (n<0))&&c.2.2.2.1.all (fun b=>b)&&c.2.1
theorem s_l9Ready_e (c:CkpState) (h:smC c):s_l9Ready c=some (cReady c):=by
 obtain ⟨h1,h2,_⟩:=h;simp only [s_l9Ready,cReady];rw [each_f (A:=CkpState×Int) (C:=CkpState) c.2.2.1 (fun n => !decide (n<0)) (fun i=>(c,i)) c (by omega) (by simp) (fun i hi=>by
  simp only [lt_d hi,ix_t hi,w6_s hi (show c.2.2.1.length<1000000000 by omega),bd_s,cnd_t];cases decide (c.2.2.1[i]<0)<;>rfl)]
 cases c.2.2.1.all (fun n => !decide (n<0))<;>(try rfl);simp only [if_true,bd_s,cs_r,Bool.true_and];rw [each_f (A:=CkpState×Int) (C:=CkpState) c.2.2.2.1 (fun b=>b) (fun i=>(c,i)) c (by omega) (by simp) (fun i hi=>by
  simp only [lt_d hi,ix_t hi,w6_s hi (show c.2.2.2.1.length<1000000000 by omega),bd_s,cnd_t];cases c.2.2.2.1[i]<;>rfl)]
 cases c.2.2.2.1.all (fun b=>b)<;>rfl
def cSaved (j:JobJob) (c:CkpState):CkpState:=cDrop j (c.1,c.2.1,c.2.2.1,c.2.2.2.1,c.2.2.2.2.1,c.1,c.2.2.1,c.2.2.2.2.1)
def pCkpSave (j:JobJob) (c:CkpState):CkpState×Bool:=if !pCkp j c then (ckpZ,false) else if !cReady c then (c,false) else (cSaved j c,true)
theorem s_CkpSave_e (j:JobJob) (c:CkpState) (h:smC c):s_CkpSave (j,c)=some (pCkpSave j c):=by
 simp only [s_CkpSave,s_CkpOk_e _ _ (smC_sn h),s_l9Copy_e c h,s_l9Ready_e c h,bd_s,pCkpSave];cases hp:pCkp j c
 ·rfl
 cases cReady c
 ·rfl
 have hj:=pCkp_job hp;simp only [Bool.not_true,cnd_f,bfe,if_false,s_l9CopySnaps_e _ h.2.2.1 h.2.2.2.1,bd_s,Nat.zero_add,List.nil_append,s_l9Drop_e _ _ hj,cSaved];rw [gd_t (by have:=h.1;omega)]
def cmtG (safe:Int) (a:TskTxn×List TskTxn) (x:TskTxn):TskTxn×List TskTxn :=
 if decide (x.1≤safe)&&((a.2.length:Int)==0)&&decide (((a.1.2.1.length:Int)+x.2.1.length)≤1500)&&decide (((a.1.2.2.length:Int)+x.2.2.length)≤1500) then ((x.1,a.1.2.1++x.2.1,a.1.2.2++x.2.2),a.2) else (a.1,a.2++[x])
def fCommit (f:FloFlow) (i:Int):FloFlow :=
 if !inR i 0 (((fK f).length:Int)-1) then f
 else
  let n:=i.toNat
  let s:=(fK f)[n]?.getD ([],0,[],[])
  let r:=s.1.foldl (cmtG (cSafe (fC f)).1) (s.2,[])
  (f.1,f.2.1,f.2.2.1,f.2.2.2.1,(fK f).set n (r.2,r.1),f.2.2.2.2.2)
theorem s_l10Commit_e (f:FloFlow) (i:Int) (hk:(fK f).length≤100) (h3:∀ s,s∈fK f→s.1.length<1000000∧s.2.2.1.length<1000000∧s.2.2.2.length<1000000∧∀ x,x∈s.1→x.2.1.length<1000000∧x.2.2.length<1000000):s_l10Commit (f,i)=some (fCommit f i):=by
 obtain ⟨⟨j1,j2,j3,j4,j5,j6,j7,j8,j9,j10⟩,lg,sr,tk,sk,c1,c2,c3,c4,c5,c6,c7,c8⟩:=f;simp only [fK] at hk h3;simp only [s_l10Commit,s_l1In_e,bd_s,fCommit,fK,fC,cSafe];rw [w6_id (n:=(sk.length:Int)-1) (by omega) (by omega)];rcases Bool.eq_false_or_eq_true (inR i 0 ((sk.length:Int)-1)) with hin|hin
 rotate_left
 ·simp only [hin,Bool.not_false,cnd_t,if_true]
 obtain ⟨n,rfl,hn⟩:=inR_nat hin;have ek:sk[n]?.getD ([],0,[],[])=sk[n]:=by rw [List.getElem?_eq_getElem hn];rfl
 obtain ⟨k1,k2,k3,k4⟩:=h3 _ (List.getElem_mem hn);simp only [hin,Bool.not_true,cnd_f,bfe,if_false,ix_t hn,bd_s,Int.toNat_natCast,ek];rw [fold_i (S:=TskTxn×List TskTxn) sk[n].1 (cmtG c6) (fun i a=>a.1.2.1.length≤1000000+1000000*i∧a.1.2.2.length≤1000000+1000000*i∧a.2.length≤i)
  (fun a i=>(j1,j2,j3,j4,j5,j6,j7,j8,j9,j10,lg,sr,tk,c1,c2,c3,c4,c5,c6,c7,c8,floZ,a.1.1,a.1.2.1,a.1.2.2,a.2,sk.take n,sk.drop (n+1),sk[n].2.1,sk[n].1,i))
  (fun a=>(j1,j2,j3,j4,j5,j6,j7,j8,j9,j10,lg,sr,tk,c1,c2,c3,c4,c5,c6,c7,c8,floZ,a.1.1,a.1.2.1,a.1.2.2,a.2,sk.take n,sk.drop (n+1),sk[n].2.1,sk[n].1)) (sk[n].2,[]) ⟨by simp;omega,by simp;omega,by simp⟩ (fun a=>by simp) (fun a i hi hI=>by
   obtain ⟨i1,i2,i3⟩:=hI;obtain ⟨x1,x2⟩:=k4 _ (List.getElem_mem hi);have w1:w6 ((a.1.2.1.length:Int)+sk[n].1[i].2.1.length)=(a.1.2.1.length:Int)+sk[n].1[i].2.1.length:=w6_id (by omega) (by omega);have w2:w6 ((a.1.2.2.length:Int)+sk[n].1[i].2.2.length)=(a.1.2.2.length:Int)+sk[n].1[i].2.2.length:=w6_id (by omega) (by omega);refine ⟨?_,?_⟩
   ·simp only [cmtG];split
    ·simp only [List.length_append];exact ⟨by omega,by omega,by omega⟩
    ·simp only [List.length_append,List.length_singleton];exact ⟨by omega,by omega,by omega⟩
   ·have g1:(a.1.2.1.length+sk[n].1[i].2.1.length)*72≤140737488355328:=by omega
    have g2:(a.1.2.2.length+sk[n].1[i].2.2.length)*56≤140737488355328:=by omega
    have g3:(a.2.length+1)*56≤140737488355328:=by omega
    simp only [lt_d hi,ix_t hi,w6_s hi (show sk[n].1.length<1000000000 by omega),bd_s,cnd_t,w1,w2,cmtG];rcases Bool.eq_false_or_eq_true (decide (sk[n].1[i].1≤c6)) with b1|b1<;>rcases Bool.eq_false_or_eq_true ((a.2.length:Int)==0) with b2|b2<;>rcases Bool.eq_false_or_eq_true (decide ((a.1.2.1.length:Int)+sk[n].1[i].2.1.length≤1500)) with b3|b3<;>rcases Bool.eq_false_or_eq_true (decide ((a.1.2.2.length:Int)+sk[n].1[i].2.2.length≤1500)) with b4|b4 <;>
     simp only [b1,b2,b3,b4,cnd_t,cnd_f,bd_s,Bool.true_and,Bool.false_and,Bool.and_false,Bool.and_true,if_true,if_false,bfe,gd_t g1,gd_t g2,List.length_singleton,gd_t g3])]
 have hln:(n:Int)=((sk.take n).length:Int):=by simp;omega
 simp only [bd_s];rw [gd_t hln,upd_set _ hn]
theorem chk_g {α A S C β:Type} (l:List α) (p:α→Bool) (g:S→α→S) (I:Nat→S→Prop) (e:β) {f:A→Option (A⊕(β⊕C))} (st:S→Int→A) (fin:S→C) (s0:S) (hI0:I 0 s0) (h0:∀ s,f (st s l.length)=some (.inr (.inr (fin s)))) (hs:∀ (s:S) (i:Nat) (h:i<l.length),I i s→I (i+1) (g s l[i])∧f (st s i)=some (if p l[i] then .inl (st (g s l[i]) ((i:Int)+1)) else .inr (.inl e))):iter f (st s0 0)=some (if l.all p then .inr (fin (l.foldl g s0)) else .inl e):=by
 have key:∀ k i:Nat,i+k=l.length→∀ s,I i s→iter f (st s i)=some (if (l.drop i).all p then .inr (fin ((l.drop i).foldl g s)) else .inl e):=by
  intro k;induction k with
  | zero =>
   intro i h s _;rw [it_u,show i=l.length by omega,h0];simp
  | succ k ih =>
   intro i h s hI;have hi:i<l.length:=by omega
   obtain ⟨h1,h2⟩:=hs s i hi hI;rw [it_u,h2,List.drop_eq_getElem_cons hi,List.foldl_cons,List.all_cons];cases hp:p l[i]
   ·rfl
   ·simp only [if_true,bd_s,cs_l,Bool.true_and];exact ih (i+1) (by omega) _ h1
 have:=key l.length 0 (by omega) s0 hI0;simpa using this
def pTskNew (j:JobJob) (op:OpState) (marks:List Int):TskTask :=
 if !pOp j op || !((marks.length:Int)==j.1) then tskZ
 else if !marks.all isTm then tskZ
 else (marks.map fun m=>([],m,false),op,0,0,[],[])
theorem s_TskNew_e (j:JobJob) (op:OpState) (marks:List Int):s_TskNew (j,op,marks)=some (pTskNew j op marks):=by
 simp only [s_TskNew,s_OpOk_u,bd_s,bd_cnd,pTskNew,bne_b];cases hp:pOp j op
 ·rfl
 have hj:=pOp_job hp;have hl:=(job_S hj).1;have hr:=((pOp_iff _ _).1 hp).2.2.1;cases hm:((marks.length:Int)==j.1)
 ·rfl
 have hm':(marks.length:Int)=j.1:=by simpa using hm
 simp only [Bool.not_true,Bool.not_false,cnd_f,Bool.or_self,bfe,if_false,s_l7Copy_e op (by omega),bd_s];have hml:marks.length<1000000000:=by omega
 rw [chk_g (S:=List TskIn) (A:=JobJob×(TskTask×(TskTask×Int))) (C:=TskTask×TskTask) marks isTm (fun o m=>o++[([],m,false)]) (fun i o=>o.length≤i) tskZ (fun o i=>(j,tskZ,(o,op,0,0,[],[]),i)) (fun o=>(tskZ,(o,op,0,0,[],[]))) [] (by simp) (fun o=>by simp [← hm']) (fun o i hi hI=>by
  refine ⟨len_1 hI,?_⟩;have hd:decide ((i:Int)<j.1)=true:=by simp;omega
  have g1:(o.length+1)*40≤140737488355328:=by omega
  simp only [hd,ix_t hi,w6_s hi hml,bd_s,cnd_t,s_l1In_e,isTm,gd_t g1];rcases Bool.eq_false_or_eq_true (inR marks[i] 0 1000) with h|h<;>simp [h])]
 cases marks.all isTm
 ·rfl
 ·simp only [if_true,bd_s,cs_r];rw [fold_map];rfl
theorem mapI2_f {α β A B:Type} (g:Nat→α→α) (g2:Nat→β→β) {f:A→Option (A⊕B)} (st:List α→List β→Int→A) (fin:List α→List β→B) (l:List α) (l2:List β) (hn:l.length<1000000000) (hl2:l2.length=l.length)
  (h0:∀ (m:List α) (m2:List β),m.length=l.length→m2.length=l.length→f (st m m2 (m.length:Nat))=some (.inr (fin m m2)))
  (hs:∀ (m:List α) (m2:List β) (i:Nat) (h:i<m.length) (h2:i<l.length) (h3:i<m2.length) (h4:i<l2.length),m.length=l.length→m2.length=l.length→m[i]=l[i]→m2[i]=l2[i]→f (st m m2 i)=some (.inl (st (m.set i (g i m[i])) (m2.set i (g2 i m2[i])) ((i:Int)+1)))):iter f (st l l2 0)=some (fin (l.mapIdx g) (l2.mapIdx g2)):=by
 have part:∀ {γ:Type} (g:Nat→γ→γ) (l:List γ) (i:Nat) (hi:i<l.length),∃ (h2:i<((l.mapIdx g).take i++l.drop i).length),((l.mapIdx g).take i++l.drop i).length=l.length∧((l.mapIdx g).take i++l.drop i)[i]=l[i]∧((l.mapIdx g).take i++l.drop i).set i (g i l[i])=(l.mapIdx g).take (i+1)++l.drop (i+1):=by
  intro γ g l i hi;have hlen:((l.mapIdx g).take i++l.drop i).length=l.length:=by simp;omega
  refine ⟨by omega,hlen,?_,?_⟩
  ·rw [List.getElem_append_right (by simp;omega)];simp [List.getElem_drop,Nat.min_eq_left (Nat.le_of_lt hi)]
  ·rw [List.set_append_right _ _ (by simp;omega),List.drop_eq_getElem_cons hi];simp only [List.length_take,List.length_mapIdx,Nat.min_eq_left (Nat.le_of_lt hi),Nat.sub_self,List.set_cons_zero];rw [List.take_add_one,List.getElem?_mapIdx,List.getElem?_eq_getElem hi,List.append_assoc];rfl
 have key:∀ k i:Nat,i+k=l.length→iter f (st ((l.mapIdx g).take i++l.drop i) ((l2.mapIdx g2).take i++l2.drop i) i)=some (fin (l.mapIdx g) (l2.mapIdx g2)):=by
  intro k;induction k with
  | zero =>
   intro i h;have e:(l.mapIdx g).take i++l.drop i=l.mapIdx g:=by
    rw [List.take_of_length_le (by simp;omega),List.drop_of_length_le (by omega)];simp
   have e2:(l2.mapIdx g2).take i++l2.drop i=l2.mapIdx g2:=by
    rw [List.take_of_length_le (by simp;omega),List.drop_of_length_le (by omega)];simp
   have:=h0 (l.mapIdx g) (l2.mapIdx g2) (by simp) (by simp;omega);rw [e,e2,it_u,show i=(l.mapIdx g).length by simp;omega,this];rfl
  | succ k ih =>
   intro i h;obtain ⟨a1,a2,a3,a4⟩:=part g l i (by omega);obtain ⟨b1,b2,b3,b4⟩:=part g2 l2 i (by omega);rw [it_u,hs _ _ i a1 (by omega) b1 (by omega) a2 (by omega) a3 b3,a3,a4,b3,b4];simp only [bd_s,cs_l];exact ih (i+1) (by omega)
 have:=key l.length 0 (by omega);simpa using this
def crT (f:FloFlow) (i:Nat) (_:TskTask):TskTask :=
 let s:=(cSafe (fC f)).2.2[i]?.getD noSnap
 let t:=pTskNew f.1 s.1 s.2
 (t.1,t.2.1,(fC f).1,t.2.2.2)
def crK (f:FloFlow) (_:Nat) (s:FloSink):FloSink:=(s.1.filter fun x=>decide (x.1≤(cSafe (fC f)).1),s.2)
def crS (f:FloFlow) (i:Nat) (_:WinWin):WinWin:=((cSafe (fC f)).2.1[i]?.getD 0,(fC f).1)
def fCrash (f:FloFlow):FloFlow:=(f.1,f.2.1,(fS f).mapIdx (crS f),(fT f).mapIdx (crT f),(fK f).mapIdx (crK f),cDrop f.1 (fC f))
theorem fold_filter {α:Type} (p:α→Bool):∀ (l:List α) (o:List α),l.foldl (fun o x=>if p x then o++[x] else o) o=o++l.filter p:=by
 intro l;induction l with
 | nil=>intro o;simp
 | cons x l ih =>
  intro o;rw [List.foldl_cons,ih];cases h:p x<;>simp [h]
theorem s_l10Crash_e (f:FloFlow) (hj:jobOk f.1=true) (h1:(fS f).length≤100) (h2:(cSafe (fC f)).2.1.length=(fS f).length) (h3:(fT f).length≤100) (h4:(cSafe (fC f)).2.2.length=(fT f).length) (h5:(fK f).length=(fT f).length) (h6:∀ s,s∈fK f→s.1.length≤1000000):s_l10Crash f=some (fCrash f):=by
 simp only [s_l10Crash,s_l9Drop_e _ _ hj,bd_s];obtain ⟨j,lg,sr,tk,sk,c1,c2,c3,c4,c5,c6,c7,c8⟩:=f;simp only [fS,fT,fK,fC,cSafe] at h1 h2 h3 h4 h5 h6 hj;simp only [fCrash,fS,fT,fK,fC,cDrop,cSafe];generalize List.replicate j.1.toNat (-1:Int)=r1;generalize List.replicate j.2.1.toNat false=r2;generalize List.replicate j.2.1.toNat noSnap=r3;rw [mapI_f (A:=FloFlow×(FloFlow×Int)) (B:=FloFlow×FloFlow) (crS (j,lg,sr,tk,sk,c1,c2,c3,c4,c5,c6,c7,c8)) (fun m i=>((j,lg,m,tk,sk,c1,false,r1,r2,r3,c6,c7,c8),floZ,i)) (fun m=>((j,lg,m,tk,sk,c1,false,r1,r2,r3,c6,c7,c8),floZ)) sr (by omega) (fun m hm=>by simp) (fun m i hi hi2 hm hmi=>by
  have hi3:i<c7.length:=by omega
  simp only [lt_d hi,ix_t hi,ix_t hi3,w6_s hi (show m.length<1000000000 by omega),bd_s,cnd_t,Int.toNat_natCast,upd_set _ hi,crS,fC,cSafe,List.getElem?_eq_getElem hi3,Option.getD_some])]
 simp only [bd_s];rw [mapI2_f (A:=FloFlow×(FloFlow×Int)) (B:=FloFlow×FloFlow) (crT (j,lg,sr,tk,sk,c1,c2,c3,c4,c5,c6,c7,c8)) (crK (j,lg,sr,tk,sk,c1,c2,c3,c4,c5,c6,c7,c8)) (fun m m2 i=>((j,lg,sr.mapIdx (crS (j,lg,sr,tk,sk,c1,c2,c3,c4,c5,c6,c7,c8)),m,m2,c1,false,r1,r2,r3,c6,c7,c8),floZ,i)) (fun m m2=>((j,lg,sr.mapIdx (crS (j,lg,sr,tk,sk,c1,c2,c3,c4,c5,c6,c7,c8)),m,m2,c1,false,r1,r2,r3,c6,c7,c8),floZ)) tk sk (by omega) (by omega) (fun m m2 hm hm2=>by simp) (fun m m2 i hi hi2 hi3 hi4 hm hm2 hmi hmi2=>by
  have hi5:i<c8.length:=by omega
  have hql:m2[i].1.length≤1000000:=by rw [hmi2];exact h6 _ (List.getElem_mem hi4)
  have hTN:s_TskNew (j,c8[i])=some (pTskNew j c8[i].1 c8[i].2):=s_TskNew_e ..;simp only [lt_d hi,ix_t hi,ix_t hi5,w6_s hi (show m.length<1000000000 by omega),bd_s,cnd_t,Int.toNat_natCast,gd_rf,gd_T,hTN,upd_set _ hi,upd_self hi5];generalize sr.mapIdx (crS (j,lg,sr,tk,sk,c1,c2,c3,c4,c5,c6,c7,c8))=sr';rw [fold_i (S:=List TskTxn) (A:=FloFlow×(FloFlow×(List TskTxn×Int))) (B:=FloFlow×(FloFlow×List TskTxn)) m2[i].1 (fun o x=>if decide (x.1≤c6) then o++[x] else o) (fun i o=>o.length≤i) (fun o k=>((j,lg,sr',m.set i ((pTskNew j c8[i].1 c8[i].2).1,(pTskNew j c8[i].1 c8[i].2).2.1,c1,(pTskNew j c8[i].1 c8[i].2).2.2.2),m2,c1,false,r1,r2,r3,c6,c7,c8),floZ,o,k)) (fun o=>((j,lg,sr',m.set i ((pTskNew j c8[i].1 c8[i].2).1,(pTskNew j c8[i].1 c8[i].2).2.1,c1,(pTskNew j c8[i].1 c8[i].2).2.2.2),m2,c1,false,r1,r2,r3,c6,c7,c8),floZ,o)) [] (by simp) (fun o=>by
   have:decide (((m2[i].1.length:Nat):Int)<((m2[i].1.length:Nat):Int))=false:=by simp
   simp only [ix_t hi3,bd_s,this,cnd_f,Int.toNat_natCast,upd_self hi3]) (fun o k hk hI=>by
   refine ⟨len_if (len_1 hI) (by omega),?_⟩;have g1:(o.length+1)*56≤140737488355328:=by omega
   simp only [ix_t hi3,bd_s,lt_d hk,cnd_t,Int.toNat_natCast,upd_self hi3,ix_t hk,w6_s hk (show m2[i].1.length<1000000000 by omega),List.length_singleton,gd_t g1];rcases Bool.eq_false_or_eq_true (decide (m2[i].1[k].1≤c6)) with b1|b1<;>simp only [b1,cnd_t,cnd_f,bd_s,if_true,if_false,bfe])]
  rw [fold_filter (fun x:TskTxn=>decide (x.1≤c6))];simp only [bd_s,ix_t hi3,List.nil_append,upd_set _ hi3,crT,crK,fC,cSafe,List.getElem?_eq_getElem hi5,Option.getD_some])]
 rfl
theorem all2_get {α β:Type} {p:α→β→Bool}:∀ {l:List α} {m:List β},all2 p l m=true→∀ (i:Nat) (h1:i<l.length) (h2:i<m.length),p l[i] m[i]=true
 | [],_,_,i,h1,_=>by simp at h1
 | _::_,[],_,i,_,h2=>by simp at h2
 | a::l,b::m,h,0,_,_=>by simp only [all2,bae] at h;exact h.1
 | a::l,b::m,h,i+1,h1,h2=>by
  simp only [all2,bae] at h;exact all2_get h.2 i (by simpa using h1) (by simpa using h2)
theorem pSnap_sm {j:JobJob} {s:CkpSnap} (h:pSnap j s=true):s.1.2.length≤300∧(s.2.length:Int)=j.1:=by
 simp only [pSnap,bae,beq_iff_eq] at h;exact ⟨((pOp_iff _ _).1 h.1.1.1).2.2.1,h.1.1.2⟩
structure CkpP (j:JobJob) (c:CkpState):Prop where
 job:jobOk j=true
 n:c.2.2.2.2.2.1≤c.1∧c.1≤900
 sn:0≤c.2.2.2.2.2.1
 opn:c.2.1=true→c.1≠c.2.2.2.2.2.1
 srcl:(c.2.2.1.length:Int)=j.1
 tskl:(c.2.2.2.1.length:Int)=j.2.1
 snpl:(c.2.2.2.2.1.length:Int)=j.2.1
 atl:(c.2.2.2.2.2.2.1.length:Int)=j.1
 ssl:(c.2.2.2.2.2.2.2.length:Int)=j.2.1
 at_:∀ n,n∈c.2.2.2.2.2.2.1→0≤n∧n≤40
 ss:∀ s,s∈c.2.2.2.2.2.2.2→pSnap j s=true
 src:∀ n,n∈c.2.2.1→(-1≤n∧n≤40)∧(c.2.1=true∨n = -1)
 snp:∀ (i:Nat) (h1:i<c.2.2.2.1.length) (h2:i<c.2.2.2.2.1.length),pTsnap j c.2.1 c.2.2.2.1[i] c.2.2.2.2.1[i]=true
theorem all2_of {α β:Type} {p:α→β→Bool}:∀ {l:List α} {m:List β},(∀ (i:Nat) (h1:i<l.length) (h2:i<m.length),p l[i] m[i]=true)→all2 p l m=true
 | [],_,_=>rfl
 | _::_,[],_=>rfl
 | a::l,b::m,h=>by
  simp only [all2,bae];exact ⟨h 0 (by simp) (by simp),all2_of fun i h1 h2=>h (i+1) (by simpa using h1) (by simpa using h2)⟩
theorem pCkp_iff (j:JobJob) (c:CkpState):pCkp j c=true↔CkpP j c:=by
 constructor
 ·intro h;simp only [pCkp,pSafe,bae,inR_iff,Bool.not_eq_true',Bool.and_eq_false_iff,beq_iff_eq,beq_eq_false_iff_ne,List.all_eq_true,pSrc,Bool.or_eq_true] at h;obtain ⟨⟨⟨⟨⟨⟨⟨⟨h1,h2⟩,h3⟩,h4⟩,h5⟩,h6⟩,⟨⟨⟨⟨s1,s2⟩,s3⟩,s4⟩,s5⟩⟩,h8⟩,h9⟩:=h;refine ⟨h1,h2,s1.1,?_,h4,h5,h6,s2,s3,s4,s5,h8,fun i a b=>all2_get h9 i a b⟩;intro ho;rcases h3 with h3|h3
  ·rw [ho] at h3;cases h3
  ·exact h3
 ·intro h;simp only [pCkp,pSafe,bae,inR_iff,Bool.not_eq_true',Bool.and_eq_false_iff,beq_iff_eq,beq_eq_false_iff_ne,List.all_eq_true,pSrc,Bool.or_eq_true];have hn:=h.n;have hs:=h.sn;refine ⟨⟨⟨⟨⟨⟨⟨⟨h.job,h.n⟩,?_⟩,h.srcl⟩,h.tskl⟩,h.snpl⟩,⟨⟨⟨⟨⟨h.sn,by omega⟩,h.atl⟩,h.ssl⟩,h.at_⟩,h.ss⟩⟩,h.src⟩,all2_of h.snp⟩;cases e:c.2.1
  ·exact .inl rfl
  ·exact .inr (h.opn e)
theorem pTsnap_sm {j:JobJob} {o t:Bool} {s:CkpSnap} (hj:jobOk j=true) (h:pTsnap j o t s=true):s.1.2.length≤300∧s.2.length≤3:=by
 simp only [pTsnap] at h;split at h
 ·simp only [bae] at h;have:=pSnap_sm h.2;have:=(job_S hj).1;omega
 ·simp only [snEmpty,bae,beq_iff_eq] at h;omega
theorem CkpP.sm {j:JobJob} {c:CkpState} (h:CkpP j c):smC c:=by
 have hj:=job_S h.job;have h1:=h.srcl;have h2:=h.tskl;have h3:=h.snpl;have h4:=h.atl;have h5:=h.ssl;refine ⟨by omega,by omega,by omega,?_,by omega,by omega,?_⟩
 ·intro s hs;obtain ⟨i,hi,rfl⟩:=List.mem_iff_getElem.1 hs;have:=pTsnap_sm h.job (h.snp i (by omega) hi);omega
 ·intro s hs;have:=pSnap_sm (h.ss s hs);omega
structure FloP (f:FloFlow):Prop where
 ckp:CkpP (fJ f) (fC f)
 ll:((fL f).length:Int)=(fJ f).1
 sl:((fS f).length:Int)=(fJ f).1
 tl:((fT f).length:Int)=(fJ f).2.1
 kl:((fK f).length:Int)=(fJ f).2.1
 log:∀ l,l∈fL f→logOk l=true
 src:∀ (i:Nat) (h1:i<(fL f).length) (h2:i<(fS f).length),(0≤(fS f)[i].1∧(fS f)[i].1≤(fL f)[i].length)∧(0≤(fS f)[i].2∧(fS f)[i].2≤(fC f).1)
 saf:∀ (i:Nat) (h1:i<(fL f).length) (h2:i<(cSafe (fC f)).2.1.length),(cSafe (fC f)).2.1[i]≤(fL f)[i].length
 tsk:∀ t,t∈fT f→pTsk (fJ f) t=true∧t.2.2.1≤(fC f).1
 snk:∀ s,s∈fK f→pSink s=true
theorem pFlo_iff (f:FloFlow):pFlo f=true↔FloP f:=by
 constructor
 ·intro h;simp only [pFlo,bae,beq_iff_eq,List.all_eq_true,List.mem_range] at h;obtain ⟨⟨⟨⟨⟨⟨h1,h2⟩,h3⟩,h4⟩,h5⟩,h6⟩,h7⟩:=h;have hc:=(pCkp_iff _ _).1 h1;have hal:(((cSafe (fC f)).2.1.length:Nat):Int)=(fJ f).1:=hc.atl;have h2:((fL f).length:Int)=(fJ f).1:=h2;have h3:((fS f).length:Int)=(fJ f).1:=h3;have h4:((fT f).length:Int)=(fJ f).2.1:=h4;have h5:((fK f).length:Int)=(fJ f).2.1:=h5;have src:∀ (i:Nat) (a:i<(fL f).length) (b:i<(fS f).length) (c:i<(cSafe (fC f)).2.1.length),logOk (fL f)[i]=true∧((0≤(fS f)[i].1∧(fS f)[i].1≤(fL f)[i].length)∧(0≤(fS f)[i].2∧(fS f)[i].2≤(fC f).1))∧(cSafe (fC f)).2.1[i]≤(fL f)[i].length:=by
   intro i a b c;have:=h6 i a;simp only [srcAt,List.getElem?_eq_getElem a,List.getElem?_eq_getElem b,List.getElem?_eq_getElem c,bae,inR_iff,Bool.not_eq_true',decide_eq_false_iff_not] at this;exact ⟨this.1.1.1,⟨this.1.1.2,this.1.2⟩,by omega⟩
  have tsk:∀ (i:Nat) (a:i<(fT f).length) (b:i<(fK f).length),(pTsk (fJ f) (fT f)[i]=true∧(fT f)[i].2.2.1≤(fC f).1)∧pSink (fK f)[i]=true:=by
   intro i a b;have:=h7 i a;simp only [tskAt,List.getElem?_eq_getElem a,List.getElem?_eq_getElem b,bae,Bool.not_eq_true',decide_eq_false_iff_not] at this;exact ⟨⟨this.1.1,by omega⟩,this.2⟩
  refine ⟨hc,h2,h3,h4,h5,?_,fun i a b=>(src i a b (by omega)).2.1,fun i a b=>(src i a (by omega) b).2.2,?_,?_⟩
  ·intro l hl;obtain ⟨i,hi,rfl⟩:=List.mem_iff_getElem.1 hl;exact (src i hi (by omega) (by omega)).1
  ·intro t ht;obtain ⟨i,hi,rfl⟩:=List.mem_iff_getElem.1 ht;exact (tsk i hi (by omega)).1
  ·intro s hs;obtain ⟨i,hi,rfl⟩:=List.mem_iff_getElem.1 hs;exact (tsk i (by omega) hi).2
 ·intro h;simp only [pFlo,bae,beq_iff_eq,List.all_eq_true,List.mem_range];have hal:(((cSafe (fC f)).2.1.length:Nat):Int)=(fJ f).1:=h.ckp.atl;have h2:=h.ll;have h3:=h.sl;have h4:=h.tl;have h5:=h.kl;refine ⟨⟨⟨⟨⟨⟨(pCkp_iff _ _).2 h.ckp,h.ll⟩,h.sl⟩,h.tl⟩,h.kl⟩,?_⟩,?_⟩
  ·intro i a;have b:i<(fS f).length:=by omega
   have c:i<(cSafe (fC f)).2.1.length:=by omega
   have e1:=h.src i a b;have e2:=h.saf i a c;simp only [srcAt,List.getElem?_eq_getElem a,List.getElem?_eq_getElem b,List.getElem?_eq_getElem c,bae,inR_iff,Bool.not_eq_true',decide_eq_false_iff_not];exact ⟨⟨⟨h.log _ (List.getElem_mem a),e1.1⟩,e1.2⟩,by omega⟩
  ·intro i a;have b:i<(fK f).length:=by omega
   have e1:=h.tsk _ (List.getElem_mem a);simp only [tskAt,List.getElem?_eq_getElem a,List.getElem?_eq_getElem b,bae,Bool.not_eq_true',decide_eq_false_iff_not];exact ⟨⟨e1.1,by have:=e1.2;simp only [fT,fC] at *;omega⟩,h.snk _ (List.getElem_mem b)⟩
theorem pWin_iff (w:WinWin):pWin w=true↔(0≤w.1∧w.1≤60)∧w.1<w.2∧w.2≤120:=by
 simp only [pWin,bae,inR_iff];constructor
 ·rintro ⟨h1,h2⟩;rw [w6_id (by omega) (by omega)] at h2;omega
 ·rintro ⟨h1,h2⟩;rw [w6_id (by omega) (by omega)];omega
def AggP (a:AggAgg):Prop:=(1≤a.1∧a.1≤1000)∧(-9≤a.2.2.1∧a.2.2.1≤9)∧(a.2.2.1≤a.2.2.2∧a.2.2.2≤9)∧(a.1*a.2.2.1≤a.2.1∧a.2.1≤a.1*a.2.2.2)
theorem mul_b {n l:Int} (h:0≤n∧n≤1000) (hl : -9≤l∧l≤9) : -9000≤n*l∧n*l≤9000:=by
 have h1:n*l≤n*9:=Int.mul_le_mul_of_nonneg_left hl.2 h.1;have h2:n*(-9)≤n*l:=Int.mul_le_mul_of_nonneg_left hl.1 h.1;omega
theorem pAgg_iff (a:AggAgg):pAgg a=true↔a=agg0∨AggP a:=by
 simp only [pAgg];obtain ⟨n,s,l,m⟩:=a;by_cases h0:n=0
 ·subst h0;simp only [beq_self_eq_true,if_true,bae,beq_iff_eq,AggP,agg0];constructor
  ·rintro ⟨rfl,rfl,rfl⟩;exact .inl rfl
  ·rintro (h|h)
   ·cases h;simp
   ·have:=h.1;simp at this
 ·have h0':(n==(0:Int))=false:=by simpa using h0
  simp only [h0',bfe,if_false,bae,inR_iff,AggP,agg0,Prod.mk.injEq,h0,false_and,false_or];constructor
  ·rintro ⟨⟨⟨h1,h2⟩,h3⟩,h4⟩;have b1:=mul_b (n:=n) (l:=l) ⟨by omega,h1.2⟩ h2;have b2:=mul_b (n:=n) (l:=m) ⟨by omega,h1.2⟩ ⟨by omega,h3.2⟩;rw [w6_id (by omega) (by omega),w6_id (by omega) (by omega)] at h4;exact ⟨h1,h2,h3,h4⟩
  ·rintro ⟨h1,h2,h3,h4⟩;have b1:=mul_b (n:=n) (l:=l) ⟨by omega,h1.2⟩ h2;have b2:=mul_b (n:=n) (l:=m) ⟨by omega,h1.2⟩ ⟨by omega,h3.2⟩;rw [w6_id (by omega) (by omega),w6_id (by omega) (by omega)];exact ⟨⟨⟨h1,h2⟩,h3⟩,h4⟩
theorem aggBoth_l (b:AggAgg):aggBoth agg0 b=b:=by simp [aggBoth]
theorem aggBoth_p {a b:AggAgg} (ha:AggP a) (hb:AggP b):aggBoth a b=(a.1+b.1,a.2.1+b.2.1,(if b.2.2.1<a.2.2.1 then b.2.2.1 else a.2.2.1),(if b.2.2.2>a.2.2.2 then b.2.2.2 else a.2.2.2)):=by
 obtain ⟨a1,a2,a3,a4⟩:=ha;obtain ⟨b1,b2,b3,b4⟩:=hb;have m1:=mul_b (n:=a.1) (l:=a.2.2.1) ⟨by omega,a1.2⟩ a2;have m2:=mul_b (n:=a.1) (l:=a.2.2.2) ⟨by omega,a1.2⟩ ⟨by omega,a3.2⟩;have m3:=mul_b (n:=b.1) (l:=b.2.2.1) ⟨by omega,b1.2⟩ b2;have m4:=mul_b (n:=b.1) (l:=b.2.2.2) ⟨by omega,b1.2⟩ ⟨by omega,b3.2⟩;have z1:(a.1==(0:Int))=false:=by simp;omega
 have z2:(b.1==(0:Int))=false:=by simp;omega
 simp only [aggBoth,z1,z2,bfe,if_false,dte];rw [w6_id (n:=a.1+b.1) (by omega) (by omega),w6_id (n:=a.2.1+b.2.1) (by omega) (by omega)]
theorem AggP_both {a b:AggAgg} (ha:AggP a) (hb:AggP b) (hn:a.1+b.1≤1000):AggP (aggBoth a b)∧(aggBoth a b).1=a.1+b.1:=by
 rw [aggBoth_p ha hb];obtain ⟨a1,a2,a3,a4⟩:=ha;obtain ⟨b1,b2,b3,b4⟩:=hb;refine ⟨⟨⟨by simp only;omega,by simpa using hn⟩,?_,?_,?_⟩,rfl⟩
 ·simp only;split<;>omega
 ·simp only;split<;>split<;>omega
 ·simp only;have e1:∀ l,(a.1+b.1)*l=a.1*l+b.1*l:=fun l=>Int.add_mul ..
  simp only [e1];constructor
  ·split
   ·have:=Int.mul_le_mul_of_nonneg_left (show b.2.2.1≤a.2.2.1 by omega) (show 0≤a.1 by omega);omega
   ·have:=Int.mul_le_mul_of_nonneg_left (show a.2.2.1≤b.2.2.1 by omega) (show 0≤b.1 by omega);omega
  ·split
   ·have:=Int.mul_le_mul_of_nonneg_left (show a.2.2.2≤b.2.2.2 by omega) (show 0≤a.1 by omega);omega
   ·have:=Int.mul_le_mul_of_nonneg_left (show b.2.2.2≤a.2.2.2 by omega) (show 0≤b.1 by omega);omega
theorem AggP_one {v:Int} (h : -9≤v∧v≤9):AggP (1,v,v,v):=⟨by simp,h,⟨by simp,h.2⟩,by simp⟩
theorem AggP_add {a:AggAgg} (ha:a=agg0∨AggP a) {v:Int} (h : -9≤v∧v≤9) (hn:a.1+1≤1000):AggP (aggAdd a v)∧(aggAdd a v).1=a.1+1:=by
 rcases ha with rfl|ha
 ·simp only [aggAdd,aggBoth_l];exact ⟨AggP_one h,rfl⟩
 ·exact AggP_both ha (AggP_one h) hn
structure RowP (j:JobJob) (m:Int) (r:OpRow):Prop where
 key:0≤r.1∧r.1≤3
 win:pWin r.2.1=true
 all:AggP r.2.2.1
 fre:r.2.2.2.1=agg0∨AggP r.2.2.2.1
 fle:r.2.2.2.1.1≤r.2.2.1.1
 told:0≤r.2.2.2.2.1∧r.2.2.2.2.1≤1500
 gone:m<r.2.1.2+j.2.2.2.2.2.1
 tim:r.2.2.2.2.2=true↔m≥r.2.1.2
 tol:r.2.2.2.2.2=true↔r.2.2.2.2.1>0
 frz:r.2.2.2.2.2=true↔r.2.2.2.1.1=0
theorem pRow_iff {j:JobJob} (hj:jobOk j=true) {m:Int} (r:OpRow):pRow j r m=true↔RowP j m r:=by
 have hl:=(job_N hj).2.2.1;constructor
 ·intro h;simp only [pRow,bae,inR_iff,Bool.not_eq_true',beq_eq_false_iff_ne,decide_eq_false_iff_not,dte,beq_iff_eq] at h;obtain ⟨⟨⟨⟨⟨⟨⟨⟨⟨⟨h1,h2⟩,h3⟩,h4⟩,h5⟩,h6⟩,h7⟩,h8⟩,h9⟩,h10⟩,h11⟩:=h;have hw:=(pWin_iff _).1 h2;rw [w6_id (by omega) (by omega)] at h8;have h3':=(pAgg_iff _).1 h3;refine ⟨h1,h2,?_,(pAgg_iff _).1 h4,by omega,h7,h8,by rw [h9];simp,by rw [← h10];simp,by rw [← h11];simp⟩;rcases h3' with h|h
  ·exact absurd (by rw [h]) h5
  ·exact h
 ·intro h;have hw:=(pWin_iff _).1 h.win;simp only [pRow,bae,inR_iff,Bool.not_eq_true',beq_eq_false_iff_ne,decide_eq_false_iff_not,dte,beq_iff_eq];rw [w6_id (by have:=h.gone;omega) (by omega)];refine ⟨⟨⟨⟨⟨⟨⟨⟨⟨⟨h.key,h.win⟩,(pAgg_iff _).2 (.inr h.all)⟩,(pAgg_iff _).2 h.fre⟩,?_⟩,?_⟩,h.told⟩,h.gone⟩,?_⟩,?_⟩,?_⟩
  ·have:=h.all.1;omega
  ·have:=h.fle;omega
  ·have:=h.tim;cases e:r.2.2.2.2.2<;>simp_all
  ·have:=h.tol;cases e:r.2.2.2.2.2<;>simp_all
  ·have:=h.frz;cases e:r.2.2.2.2.2<;>simp_all
def cnt (l:List OpRow):Int:=l.foldr (fun r n=>r.2.2.1.1+n) 0
theorem cnt_app (a b:List OpRow):cnt (a++b)=cnt a+cnt b:=by
 induction a with
 | nil=>simp [cnt]
 | cons r a ih=>simp only [List.cons_append,cnt,List.foldr_cons] at ih ⊢;omega
@[simp] theorem cnt_cons (r:OpRow) (a:List OpRow):cnt (r::a)=r.2.2.1.1+cnt a:=rfl
@[simp] theorem cnt_nil:cnt []=0:=rfl
theorem cnt_nn {l:List OpRow} (h:∀ r,r∈l→0≤r.2.2.1.1):0≤cnt l:=by
 induction l with
 | nil=>simp
 | cons r l ih =>
  have:=ih fun r hr=>h r (List.mem_cons_of_mem _ hr)
  have:=h r (List.mem_cons_self ..);simp only [cnt_cons];omega
theorem cnt_le {l:List OpRow} (h:∀ r,r∈l→0≤r.2.2.1.1) {r:OpRow} (hr:r∈l):r.2.2.1.1≤cnt l:=by
 induction l with
 | nil=>simp at hr
 | cons x l ih =>
  have h0:=cnt_nn fun r hr=>h r (List.mem_cons_of_mem x hr)
  have hx:=h x (List.mem_cons_self ..);simp only [cnt_cons];rcases List.mem_cons.1 hr with rfl|hr
  ·omega
  ·have:=ih (fun r hr=>h r (List.mem_cons_of_mem _ hr)) hr;omega
theorem cnt_filter (p:OpRow→Bool) {l:List OpRow}:cnt (l.filter p)+cnt (l.filter fun r => !p r)=cnt l:=by
 induction l with
 | nil=>simp
 | cons r l ih =>
  cases h:p r<;>simp [h]<;>omega
theorem cnt_put {l:List OpRow} (r:OpRow) (h:∀ x,x∈l→0≤x.2.2.1.1):cnt (pPut l r)=cnt l-cnt (l.filter fun x=>sameW x r)+r.2.2.1.1:=by
 simp only [pPut,cnt_app,cnt_cons];have:∀ l:List OpRow,cnt (l.filter fun x=>ahead x r)+cnt (l.filter fun x=>ahead r x)+cnt (l.filter fun x=>sameW x r)=cnt l:=by
  intro l;induction l with
  | nil=>simp
  | cons x l ih =>
   rcases ahead_tri x r with ⟨h1,h2,h3⟩|⟨h1,h2,h3⟩|⟨h1,h2,h3⟩<;>simp [h1,h2,h3]<;>omega
 have:=this l;omega
theorem mem_put {l:List OpRow} {r x:OpRow} (h:x∈pPut l r):x=r∨(x∈l∧sameW x r=false):=by
 simp only [pPut,lma,List.mem_cons,List.mem_filter] at h;rcases h with ⟨h,h2⟩|rfl|⟨h,h2⟩
 ·right;refine ⟨h,?_⟩;rcases ahead_tri x r with ⟨a,b,c⟩|⟨a,b,c⟩|⟨a,b,c⟩<;>simp_all
 ·exact .inl rfl
 ·right;refine ⟨h,?_⟩;rcases ahead_tri x r with ⟨a,b,c⟩|⟨a,b,c⟩|⟨a,b,c⟩<;>simp_all
structure OpI (j:JobJob) (s:OpState) (K:Int):Prop where
 job:jobOk j=true
 mark:0≤s.1∧s.1≤1000
 row:∀ r,r∈s.2→RowP j s.1 r∧r.2.2.2.2.1≤r.2.2.1.1
 srt:Srt s.2
 apart:j.2.2.1=3→s.2.Pairwise fun a b=>touchR a b=false
 cnt:cnt s.2≤K
theorem OpI.mono {j:JobJob} {s:OpState} {K L:Int} (h:OpI j s K) (hl:K≤L):OpI j s L:=⟨h.job,h.mark,h.row,h.srt,h.apart,by have:=h.cnt;omega⟩
theorem OpI.ok {j:JobJob} {s:OpState} {K:Int} (h:OpI j s K) (hl:s.2.length≤300):pOp j s=true :=
 (pOp_iff j s).2 ⟨h.job,h.mark,hl,fun r hr=>(pRow_iff h.job r).2 (h.row r hr).1,h.srt,h.apart⟩
theorem OpI.nn {j:JobJob} {s:OpState} {K:Int} (h:OpI j s K):∀ r,r∈s.2→0≤r.2.2.1.1:=fun r hr=>by have:=(h.row r hr).1.all.1;omega
theorem OpI.le {j:JobJob} {s:OpState} {K:Int} (h:OpI j s K):∀ r,r∈s.2→r.2.2.1.1≤K:=fun r hr=>by have:=cnt_le h.nn hr;have:=h.cnt;omega
theorem touchR_s (a b:OpRow):touchR a b=touchR b a:=by
 rw [Bool.eq_iff_iff];simp only [touchR,touchW,bae,beq_iff_eq,dte];constructor<;>(rintro ⟨h1,h2,h3⟩;exact ⟨h1.symm,h3,h2⟩)
theorem pw_two {l:List OpRow} {R:OpRow→OpRow→Prop} (hs:∀ a b,R a b→R b a) (h:l.Pairwise R) {a b:OpRow} (ha:a∈l) (hb:b∈l) (hne:a≠b):R a b:=by
 induction l with
 | nil=>simp at ha
 | cons x l ih =>
  obtain ⟨h1,h2⟩:=List.pairwise_cons.1 h;rcases List.mem_cons.1 ha with e1|ha1
  ·rcases List.mem_cons.1 hb with e2|hb1
   ·exact absurd (e1.trans e2.symm) hne
   ·rw [e1];exact h1 _ hb1
  ·rcases List.mem_cons.1 hb with e2|hb1
   ·rw [e2];exact hs _ _ (h1 _ ha1)
   ·exact ih h2 ha1 hb1
structure PreR (m:Int) (j:JobJob) (r:OpRow):Prop where
 key:0≤r.1∧r.1≤3
 win:pWin r.2.1=true
 all:AggP r.2.2.1
 fre:AggP r.2.2.2.1
 fle:r.2.2.2.1.1≤r.2.2.1.1
 told:0≤r.2.2.2.2.1∧r.2.2.2.2.1+1≤r.2.2.1.1
 gone:m<r.2.1.2+j.2.2.2.2.2.1
 tim:r.2.2.2.2.2=true→m≥r.2.1.2
 tol:r.2.2.2.2.2=true↔r.2.2.2.2.1>0
theorem pan_mk {ky no k:Int} {w:WinWin} {a:AggAgg} (h1:0≤ky∧ky≤3) (h2:pWin w=true) (ha:AggP a) (h5:0≤no∧no≤1500) (h6:(k=1∧no=0)∨(k=2∧no>0)):pPan (ky,w,no,k,a)=true:=by
 have hb:=(pAgg_iff _).2 (.inr ha);have hn:=ha.1;have e1:inR ky 0 3=true:=inR_iff.2 h1;have e2:inR no 0 1500=true:=inR_iff.2 h5;have e3:decide (a.1>0)=true:=by simp only [dte];omega
 rcases h6 with ⟨rfl,h⟩|⟨rfl,h⟩
 ·simp only [pPan,e1,e2,e3,h2,hb,h];rfl
 ·have e4:decide (no>0)=true:=by simpa using h
  simp only [pPan,e1,e2,e3,h2,hb,e4];rfl
theorem pan_ok {j:JobJob} {r:OpRow} {k:Int} (h1:0≤r.1∧r.1≤3) (h2:pWin r.2.1=true) (h3:AggP r.2.2.1) (h4:AggP r.2.2.2.1) (h5:0≤r.2.2.2.2.1∧r.2.2.2.2.1≤1500) (h6:(k=1∧r.2.2.2.2.1=0)∨(k=2∧r.2.2.2.2.1>0)):pPan (opPane j r k)=true:=by
 refine pan_mk h1 h2 ?_ h5 h6;split<;>assumption
theorem tell_ok {j:JobJob} {s:OpState} {r:OpRow} {K0 K:Int} (h:OpI j s K0) (hr:PreR s.1 j r) (ha:j.2.2.1=3→∀ x,x∈s.2→sameW x r=false→touchR x r=false) (hK:cnt s.2-cnt (s.2.filter fun x=>sameW x r)+r.2.2.1.1≤K) :
  OpI j (pTell j s r).1 K∧∀ p,p∈(pTell j s r).2→pPan p=true:=by
 have put:∀ r':OpRow,r'.1=r.1→r'.2.1=r.2.1→r'.2.2.1=r.2.2.1→RowP j s.1 r'→r'.2.2.2.2.1≤r'.2.2.1.1→OpI j (s.1,pPut s.2 r') K:=by
  intro r' e1 e2 e3 h1 h2;have es:∀ x,sameW x r'=sameW x r:=fun x=>by simp only [sameW,e1,e2]
  have et:∀ x,touchR x r'=touchR x r:=fun x=>by simp only [touchR,e1,e2]
  refine ⟨h.job,h.mark,?_,srt_put _ h.srt,?_,?_⟩
  ·intro x hx;rcases mem_put hx with rfl|⟨hx,_⟩
   ·exact ⟨h1,h2⟩
   ·exact h.row x hx
  ·intro hk;have hp:=h.apart hk;have hf:∀ q:OpRow→Bool,(s.2.filter q).Pairwise fun a b=>touchR a b=false:=fun q=>List.Pairwise.filter q hp
   have hne:∀ x,x∈s.2→(ahead x r'=true∨ahead r' x=true)→touchR x r'=false:=by
    intro x hx hc;rw [et];refine ha hk x hx ?_;rw [← es];rcases ahead_tri x r' with ⟨a,b,c⟩|⟨a,b,c⟩|⟨a,b,c⟩<;>simp_all
   refine List.pairwise_append.2 ⟨hf _,List.pairwise_cons.2 ⟨?_,hf _⟩,?_⟩
   ·intro y hy;have hy:=List.mem_filter.1 hy;rw [touchR_s];exact hne y hy.1 (.inr hy.2)
   ·intro a ha' b hb;have ha':=List.mem_filter.1 ha';rcases List.mem_cons.1 hb with rfl|hb
    ·exact hne a ha'.1 (.inl ha'.2)
    ·have hb:=List.mem_filter.1 hb;refine pw_two (R:=fun a b=>touchR a b=false) (fun a b h=>by rw [touchR_s];exact h) hp ha'.1 hb.1 ?_;intro e;subst e;rcases ahead_tri a r' with ⟨a1,b1,c1⟩|⟨a1,b1,c1⟩|⟨a1,b1,c1⟩<;>simp_all
  ·have:=cnt_put r' h.nn;simp only [es,e3] at this;simp only;omega
 simp only [pTell];have hN:=hr.all.1;split
 ·rename_i hd;simp only [dte] at hd;have ht:r.2.2.2.2.2=false:=by
   cases e:r.2.2.2.2.2
   ·rfl
   ·have:=hr.tim e;omega
  have h0:¬ (r.2.2.2.2.1>0):=by
   intro h0;have:=hr.tol.2 h0;simp [ht] at this
  have h4:=hr.fre.1;refine ⟨put r rfl rfl rfl ⟨hr.key,hr.win,hr.all,.inr hr.fre,hr.fle,?_,hr.gone,?_,hr.tol,?_⟩ ?_,by simp⟩
  ·have:=hr.told;omega
  ·simp [ht];omega
  ·simp [ht];omega
  ·have:=hr.told;omega
 ·rename_i hd;simp only [dte] at hd;have htd:=hr.told;rw [w6_id (by omega) (by omega)];refine ⟨put (r.1,r.2.1,r.2.2.1,agg0,r.2.2.2.2.1+1,true) rfl rfl rfl ⟨hr.key,hr.win,hr.all,.inl rfl,?_,?_,hr.gone,?_,?_,?_⟩ ?_,?_⟩
  ·simp only;omega
  ·simp only;omega
  ·simp only [true_iff];omega
  ·simp only [true_iff];omega
  ·simp
  ·simp only;omega
  ·intro p hp;simp only [List.mem_singleton] at hp;subst hp;refine pan_ok hr.key hr.win hr.all hr.fre ⟨by omega,by omega⟩ ?_;have:=hr.tol;cases e:r.2.2.2.2.2
   ·left;simp [e] at this ⊢;omega
   ·right;simp [e] at this ⊢;omega
theorem find_row {s:OpState} {k:Int} {w:WinWin}:((opFind s k w).1=row0∧∀ r,r∈s.2→isRow k w r=false)∨((opFind s k w).1∈s.2∧isRow k w (opFind s k w).1=true):=by
 simp only [opFind];cases e:s.2.find? (isRow k w) with
 | none =>
  left;refine ⟨rfl,fun r hr => ?_⟩;have:=List.find?_eq_none.1 e r hr;simpa using this
 | some r=>right;exact ⟨List.mem_of_find?_eq_some e,List.find?_some e⟩
theorem cnt_mem {l:List OpRow} {p:OpRow→Bool} (hn:∀ r,r∈l→0≤r.2.2.1.1) {r:OpRow} (hr:r∈l) (hp:p r=true):r.2.2.1.1≤cnt (l.filter p) :=
 cnt_le (fun x hx=>hn x (List.mem_filter.1 hx).1) (List.mem_filter.2 ⟨hr,hp⟩)
theorem isRow_iff {k:Int} {w:WinWin} {r:OpRow}:isRow k w r=true↔r.1=k∧r.2.1=w:=by
 simp only [isRow,bae,beq_iff_eq];constructor
 ·rintro ⟨h1,h2,h3⟩;exact ⟨h1,Prod.ext h2 h3⟩
 ·rintro ⟨h1,h2⟩;subst h2;exact ⟨h1,rfl,rfl⟩
theorem into_ok {j:JobJob} {s:OpState} {x:ItmItem} {w:WinWin} {K:Int} (h:OpI j s K) (hK:K+1≤1000) (hK0:0≤K) (hk:0≤x.2.2.1∧x.2.2.1≤3) (hv : -9≤x.2.2.2.1∧x.2.2.2.1≤9) (hw:pWin w=true) (hf:j.2.2.1≠3∨∃ r,r∈s.2∧isRow x.2.2.1 w r=true) :
  OpI j (pInto j s x w).1 (K+1)∧∀ p,p∈(pInto j s x w).2.1→pPan p=true:=by
 have hww:=(pWin_iff w).1 hw;have hl:=(job_N h.job).2.2.1;simp only [pInto];rw [w6_id (by omega) (by omega)];split
 ·exact ⟨h.mono (by omega),by simp⟩
 ·rename_i hd;simp only [dte] at hd;have hcn:=h.cnt;have hsame:∀ (a:AggAgg) (b:AggAgg) (c:Int×Bool) (r:OpRow),sameW r (x.2.2.1,w,a,b,c)=isRow x.2.2.1 w r:=fun a b c r=>rfl
  rcases find_row (s:=s) (k:=x.2.2.1) (w:=w) with ⟨e,hno⟩|⟨hm,hi⟩
  ·rw [e];have a1:=AggP_add (a:=agg0) (.inl rfl) hv (by simp);refine tell_ok (K0:=K) h ⟨hk,hw,a1.1,a1.1,by simp,⟨by simp [row0],?_⟩,by simp only;omega,by simp [row0],by simp [row0]⟩ ?_ ?_
   ·simp only [row0];rw [a1.2];simp
   ·intro h3;rcases hf with hf|⟨r,hr,hr2⟩
    ·exact absurd h3 hf
    ·have:=hno r hr;simp [hr2] at this
   ·simp only [hsame];have:cnt (s.2.filter fun r=>isRow x.2.2.1 w r)≥0:=cnt_nn fun r hr=>h.nn r (List.mem_filter.1 hr).1
    have e2:(aggAdd (0,0,0,0) x.2.2.2.1).1=1:=a1.2;omega
  ·obtain ⟨hrp,hrt⟩:=h.row _ hm;have hle:=h.le _ hm;have hc:=cnt_mem (p:=fun r=>isRow x.2.2.1 w r) h.nn hm hi;have ei:=isRow_iff.1 hi;generalize (opFind s x.2.2.1 w).1=r at *;have a1:=AggP_add (.inr hrp.all) hv (by omega);have f1:=AggP_add hrp.fre hv (by have:=hrp.fle;omega);refine tell_ok (K0:=K) h ⟨hk,hw,a1.1,f1.1,?_,?_,by simp only;omega,?_,?_⟩ ?_ ?_
   ·simp only;rw [a1.2,f1.2];have:=hrp.fle;omega
   ·simp only;rw [a1.2];have:=hrp.told;omega
   ·intro ht;have:=hrp.tim.1 ht;rw [ei.2] at this;exact this
   ·exact hrp.tol
   ·intro h3 y hy hs;rw [hsame] at hs;have hne:y≠r:=by intro e;subst e;simp [hi] at hs
    have:=pw_two (R:=fun a b=>touchR a b=false) (fun a b h=>by rw [touchR_s];exact h) (h.apart h3) hy hm hne;simp only [touchR,ei.1,ei.2] at this ⊢;exact this
   ·simp only [hsame];rw [a1.2];omega
theorem winSpan_c (a b:WinWin):winSpan a b=(if b.1<a.1 then b.1 else a.1,if b.2>a.2 then b.2 else a.2):=by
 simp [winSpan]
theorem span_in (old:List OpRow):∀ w:WinWin,(spanOf w old).1≤w.1∧w.2≤(spanOf w old).2:=by
 induction old with
 | nil=>intro w;simp [spanOf]
 | cons o l ih =>
  intro w;have:=ih (winSpan w o.2.1);have e:spanOf w (o::l)=spanOf (winSpan w o.2.1) l:=rfl;rw [e];generalize spanOf (winSpan w o.2.1) l=q at *;rw [winSpan_c] at this;simp only at this;constructor
  ·have:=this.1;split at this<;>omega
  ·have:=this.2;split at this<;>omega
theorem span_ok (old:List OpRow):∀ w:WinWin,pWin w=true→(∀ o,o∈old→pWin o.2.1=true)→pWin (spanOf w old)=true:=by
 induction old with
 | nil=>intro w h _;exact h
 | cons o l ih =>
  intro w h h2;refine ih (winSpan w o.2.1) ?_ fun o ho=>h2 o (List.mem_cons_of_mem _ ho)
  have h3:=(pWin_iff _).1 (h2 o (List.mem_cons_self ..));have h4:=(pWin_iff _).1 h;rw [pWin_iff,winSpan_c];simp only;split<;>split<;>omega
theorem span_ap (r:WinWin) (hr:r.1<r.2) (old:List OpRow):∀ w:WinWin,w.1<w.2→(∀ o,o∈old→touchW o.2.1 w=true∧touchW r o.2.1=false)→touchW r w=false→touchW r (spanOf w old)=false:=by
 induction old with
 | nil=>intro w _ _ h;exact h
 | cons o l ih =>
  intro w hw h1 h2;obtain ⟨t1,t2⟩:=h1 o (List.mem_cons_self ..);simp only [touchW,bae,dte,Bool.and_eq_false_iff,decide_eq_false_iff_not] at t1 t2 h2;refine ih (winSpan w o.2.1) ?_ ?_ ?_
  ·rw [winSpan_c];simp only;split<;>split<;>omega
  ·intro o' ho';obtain ⟨u1,u2⟩:=h1 o' (List.mem_cons_of_mem _ ho');refine ⟨?_,u2⟩;simp only [touchW,bae,dte] at u1;rw [winSpan_c];simp only [touchW,bae,dte];constructor
   ·split<;>omega
   ·split<;>omega
  ·rw [winSpan_c];simp only [touchW,Bool.and_eq_false_iff,decide_eq_false_iff_not];split<;>split<;>omega
theorem allOf_ok (old:List OpRow):∀ a:AggAgg,AggP a→(∀ o,o∈old→AggP o.2.2.1)→a.1+cnt old≤1000→AggP (allOf a old)∧(allOf a old).1=a.1+cnt old:=by
 induction old with
 | nil=>intro a h _ _;simp [allOf,h]
 | cons o l ih =>
  intro a h h2 h3;have ho:=h2 o (List.mem_cons_self ..);have h0:0≤cnt l:=cnt_nn fun r hr=>by have:=(h2 r (List.mem_cons_of_mem _ hr)).1;omega
  simp only [cnt_cons] at h3 ⊢;have hb:=AggP_both h ho (by omega);have:=ih _ hb.1 (fun o ho=>h2 o (List.mem_cons_of_mem _ ho)) (by omega);refine ⟨this.1,?_⟩;have e:(allOf a (o::l))=allOf (aggBoth a o.2.2.1) l:=rfl;rw [e,this.2,hb.2];omega
theorem oneIs_o {old:List OpRow} {w:WinWin} (h:oneIs old w=true):∃ o,o∈old∧old=[o]∧o.2.1=w:=by
 cases old with
 | nil=>simp only [oneIs,bfe] at h
 | cons o l =>
  cases l with
  | nil =>
   simp only [oneIs,bae,beq_iff_eq] at h;exact ⟨o,List.mem_singleton.2 rfl,rfl,Prod.ext h.1 h.2⟩
  | cons a b=>simp only [oneIs,bfe] at h
theorem sess_ok {j:JobJob} {s:OpState} {x:ItmItem} {w:WinWin} {K:Int} (h:OpI j s K) (hK:K+1≤1000) (hK0:0≤K) (hk:0≤x.2.2.1∧x.2.2.1≤3) (hv : -9≤x.2.2.2.1∧x.2.2.2.1≤9) (hw:pWin w=true) :
  OpI j (pSession j s x w).1 (K+1)∧∀ p,p∈(pSession j s x w).2.1→pPan p=true:=by
 have hl:=(job_N h.job).2.2.1;have hold:∀ o,o∈s.2.filter (isT x w)→o∈s.2∧o.1=x.2.2.1∧touchW o.2.1 w=true:=by
  intro o ho;have ho:=List.mem_filter.1 ho;have:=ho.2;simp only [isT,bae,beq_iff_eq] at this;exact ⟨ho.1,this⟩
 have hres:∀ y,y∈s.2.filter (fun r => !isT x w r)→y∈s.2∧(y.1≠x.2.2.1∨touchW y.2.1 w=false):=by
  intro y hy;have hy:=List.mem_filter.1 hy;have:=hy.2;simp only [isT,Bool.not_eq_true',Bool.and_eq_false_iff,beq_eq_false_iff_ne] at this;exact ⟨hy.1,this⟩
 have hcf:=cnt_filter (isT x w) (l:=s.2);have hsr:Srt (s.2.filter fun r => !isT x w r):=srt_filter _ h.srt;have hra:j.2.2.1=3→(s.2.filter fun r => !isT x w r).Pairwise fun a b=>touchR a b=false:=fun h3=>List.Pairwise.filter _ (h.apart h3)
 simp only [pSession];generalize s.2.filter (isT x w)=old at *;generalize s.2.filter (fun r => !isT x w r)=rest at *;have hcr:0≤cnt rest:=cnt_nn fun r hr=>h.nn r (hres r hr).1
 have hco:0≤cnt old:=cnt_nn fun r hr=>h.nn r (hold r hr).1
 have hsp:pWin (spanOf w old)=true:=span_ok _ _ hw fun o ho=>(h.row o (hold o ho).1).1.win
 have hsi:=span_in old w;have hsa:∀ r:WinWin,r.1<r.2→(∀ o,o∈old→touchW r o.2.1=false)→touchW r w=false→touchW r (spanOf w old)=false:=fun r h1 h2 h3=>span_ap r h1 old w (by have:=(pWin_iff _).1 hw;omega) (fun o ho=>⟨(hold o ho).2.2,h2 o ho⟩) h3
 generalize spanOf w old=span at *;have hsp2:=(pWin_iff _).1 hsp;have hw2:=(pWin_iff _).1 hw;have hcn:=h.cnt;rw [w6_id (by omega) (by omega)];split
 ·exact ⟨h.mono (by omega),by simp⟩
 ·rename_i hd;simp only [dte] at hd;split
  ·rename_i ho;refine into_ok h hK hK0 hk hv hsp (.inr ?_);obtain ⟨o,o1,o2,o3⟩:=oneIs_o ho;have:=hold o o1;exact ⟨o,this.1,isRow_iff.2 ⟨this.2.1,o3⟩⟩
  ·have a0:=AggP_add (a:=agg0) (.inl rfl) hv (by simp);have a01:(aggAdd agg0 x.2.2.2.1).1=1:=a0.2;have al:=allOf_ok old _ a0.1 (fun o ho=>(h.row o (hold o ho).1).1.all) (by rw [a01];omega);rw [a01] at al;generalize allOf (aggAdd agg0 x.2.2.2.1) old=al1 at *;have hrest:OpI j (s.1,rest) K:=⟨h.job,h.mark,fun r hr=>h.row r (hres r hr).1,hsr,hra,by show cnt rest≤K;omega⟩
   have hN:=al.1.1;have ht:=tell_ok (K:=K+1) (r:=(x.2.2.1,span,al1,al1,0,false)) hrest ⟨hk,hsp,al.1,al.1,Int.le_refl _,⟨Int.le_refl _,by show (0:Int)+1≤al1.1;omega⟩,by show s.1<span.2+j.2.2.2.2.2.1;omega,by simp,by simp⟩ (by
    intro h3 y hy _;obtain ⟨y1,y2⟩:=hres y hy;simp only [touchR,Bool.and_eq_false_iff,beq_eq_false_iff_ne];by_cases hky:y.1=x.2.2.1
    ·right;have hyw:=(pWin_iff _).1 (h.row y y1).1.win;have y3:touchW y.2.1 w=false:=by
      rcases y2 with y2|y2
      ·exact absurd hky y2
      ·exact y2
     refine hsa _ (by omega) ?_ y3;intro o ho;obtain ⟨o1,o2,o3⟩:=hold o ho;have hne:y≠o:=by
      intro e;subst e;rw [y3] at o3;cases o3
     have:=pw_two (R:=fun a b=>touchR a b=false) (fun a b h=>by rw [touchR_s];exact h) (h.apart h3) y1 o1 hne;simp only [touchR,Bool.and_eq_false_iff,beq_eq_false_iff_ne] at this;rcases this with this|this
     ·exact absurd (by rw [hky,o2]) this
     ·exact this
    ·exact .inl hky) (by
    have:cnt (rest.filter fun y=>sameW y (x.2.2.1,span,al1,al1,0,false))≥0:=cnt_nn fun r hr=>h.nn r (hres r (List.mem_filter.1 hr).1).1
    show cnt rest-cnt (rest.filter fun y=>sameW y (x.2.2.1,span,al1,al1,0,false))+al1.1≤K+1;omega)
   refine ⟨ht.1,?_⟩;intro p hp;rcases lma.1 hp with hp|hp
   ·obtain ⟨o,ho,rfl⟩:=List.mem_map.1 hp;have ho':=List.mem_filter.1 ho;have hr:=(h.row o (hold o ho'.1).1).1;have h1:=ho'.2;simp only [told1] at h1;have e1:inR o.1 0 3=true:=inR_iff.2 hr.key;have e2:inR o.2.2.2.2.1 0 1500=true:=inR_iff.2 hr.told;have hz:pAgg agg0=true:=(pAgg_iff _).2 (.inl rfl);simp only [pPan,goneP,e1,e2,hr.win,hz,h1];simpa using h1
   ·exact ht.2 p hp
theorem range_split (a b:Nat):List.range (a+b)=List.range a++(List.range b).map (a+·):=List.range_add
theorem pWins_4 {j:JobJob} {t:Int} (hj:jobOk j=true) (h0:0≤t) (h1:t≤60):(pWins j t).length≤4:=by
 obtain ⟨hk,hz,hl,hst,_⟩:=job_N hj;simp only [pWins];by_cases k1:j.2.2.1=1
 ·simp [k1]
 ·have k1':(j.2.2.1==(1:Int))=false:=by simpa using k1
  by_cases k3:j.2.2.1=3
  ·simp [k3]
  ·have k3':(j.2.2.1==(3:Int))=false:=by simpa using k3
   simp only [k1',k3',bfe,if_false];obtain ⟨s1,s2,s3⟩:=hst (by omega);rw [List.length_map];have hq:t/j.2.2.2.2.1*j.2.2.2.2.1≤t:=Int.ediv_mul_le t (by omega);have hn0:0≤t/j.2.2.2.2.1:=Int.ediv_nonneg h0 (by omega);by_cases hn:(t/j.2.2.2.2.1+1).toNat≤4
   ·refine Nat.le_trans (List.length_filter_le _ _) ?_;rw [List.length_map,List.length_range];exact hn
   ·obtain ⟨a,ha⟩:∃ a,(t/j.2.2.2.2.1+1).toNat=a+4:=⟨(t/j.2.2.2.2.1+1).toNat-4,by omega⟩
    rw [ha,range_split,List.map_append,List.filter_append,List.length_append];have e1:((List.range a).map fun i:Nat=>(i:Int)*j.2.2.2.2.1).filter (fun s=>decide (t<s+j.2.2.2.1))=[]:=by
     rw [List.filter_eq_nil_iff];intro s hs;obtain ⟨i,hi,rfl⟩:=List.mem_map.1 hs;have hi:=List.mem_range.1 hi;simp only [dte];have hle:((i:Int)+4)*j.2.2.2.2.1≤t/j.2.2.2.2.1*j.2.2.2.2.1:=Int.mul_le_mul_of_nonneg_right (by omega) (by omega);rw [Int.add_mul] at hle;omega
    rw [e1];refine Nat.le_trans (Nat.add_le_add_left (List.length_filter_le _ _) _) ?_;simp
theorem pWins_ok {j:JobJob} {t:Int} (hj:jobOk j=true) (h0:0≤t) (h1:t≤60):∀ w,w∈pWins j t→pWin w=true∧w.1≤t∧t<w.2:=by
 obtain ⟨hk,hz,hl,hst,_⟩:=job_N hj;intro w hw;simp only [pWins] at hw;rw [pWin_iff];by_cases k1:j.2.2.1=1
 ·have k1':(j.2.2.1==(1:Int))=true:=by simpa using k1
  simp only [k1',if_true,List.mem_singleton] at hw;have ht:=tm h0 hz.1;have hle:t.tmod j.2.2.2.1≤t:=by
   rw [Int.tmod_eq_emod_of_nonneg h0];have:=Int.emod_add_mul_ediv t j.2.2.2.1;have h3:0≤j.2.2.2.1*(t/j.2.2.2.1):=Int.mul_nonneg (by omega) (Int.ediv_nonneg h0 (by omega));omega
  subst hw;simp only;omega
 ·have k1':(j.2.2.1==(1:Int))=false:=by simpa using k1
  by_cases k3:j.2.2.1=3
  ·have k3':(j.2.2.1==(3:Int))=true:=by simpa using k3
   simp only [k1',k3',bfe,if_false,if_true,List.mem_singleton] at hw;subst hw;simp only;omega
  ·have k3':(j.2.2.1==(3:Int))=false:=by simpa using k3
   simp only [k1',k3',bfe,if_false] at hw;obtain ⟨s1,s2,s3⟩:=hst (by omega);obtain ⟨s,hs,rfl⟩:=List.mem_map.1 hw;obtain ⟨hs,hd⟩:=List.mem_filter.1 hs;obtain ⟨i,hi,rfl⟩:=List.mem_map.1 hs;have hi:=List.mem_range.1 hi;simp only [dte] at hd;have hq:t/j.2.2.2.2.1*j.2.2.2.2.1≤t:=Int.ediv_mul_le t (by omega);have hn0:0≤t/j.2.2.2.2.1:=Int.ediv_nonneg h0 (by omega);have hle:(i:Int)*j.2.2.2.2.1≤t/j.2.2.2.2.1*j.2.2.2.2.1:=Int.mul_le_mul_of_nonneg_right (by omega) (by omega);have hge:0≤(i:Int)*j.2.2.2.2.1:=Int.mul_nonneg (by omega) (by omega);simp only;omega
theorem lat_ok {x:ItmItem} {w:WinWin} (hx:RecP x) (hw:pWin w=true) (h1:w.1≤x.2.1) (h2:x.2.1<w.2):pLat (x,w)=true:=by
 have:=(pWin_iff _).1 hw;simp only [pLat,bae,beq_iff_eq,inR_iff];rw [w6_id (by omega) (by omega)];exact ⟨⟨⟨hx.kind,(recP_iff.1 hx).2⟩,hw⟩,by omega,by omega⟩
theorem takeG_ok {j:JobJob} {x:ItmItem} {K:Int} {a:OpState×List PanPane×List LatPair} {w:WinWin} (hx:RecP x) (h:OpI j a.1 K) (hK:K+1≤1000) (hK0:0≤K) (hw:pWin w=true∧w.1≤x.2.1∧x.2.1<w.2) (hp:∀ p,p∈a.2.1→pPan p=true) (hl:∀ l,l∈a.2.2→pLat l=true) :
  OpI j (takeG j x a w).1 (K+1)∧(∀ p,p∈(takeG j x a w).2.1→pPan p=true)∧(∀ l,l∈(takeG j x a w).2.2→pLat l=true):=by
 have key:∀ t:OpState×List PanPane×Bool,OpI j t.1 (K+1)∧(∀ p,p∈t.2.1→pPan p=true)→OpI j t.1 (K+1)∧(∀ p,p∈a.2.1++t.2.1→pPan p=true)∧(∀ l,l∈(if t.2.2=true then a.2.2 else a.2.2++[(x,w)])→pLat l=true):=by
  rintro t ⟨t1,t2⟩;refine ⟨t1,?_,?_⟩
  ·intro p hp';rcases lma.1 hp' with h|h
   ·exact hp p h
   ·exact t2 p h
  ·intro l hl';split at hl'
   ·exact hl l hl'
   ·rcases lma.1 hl' with h|h
    ·exact hl l h
    ·rw [List.mem_singleton.1 h];exact lat_ok hx hw.1 hw.2.1 hw.2.2
 simp only [takeG];by_cases k3:j.2.2.1=3
 ·have k3':(j.2.2.1==(3:Int))=true:=by simpa using k3
  simp only [k3',if_true];exact key _ (sess_ok h hK hK0 hx.key hx.v hw.1)
 ·have k3':(j.2.2.1==(3:Int))=false:=by simpa using k3
  simp only [k3',bfe,if_false];exact key _ (into_ok h hK hK0 hx.key hx.v hw.1 (.inl k3))
theorem take_fold {j:JobJob} {x:ItmItem} (hx:RecP x):∀ (l:List WinWin) (K:Int) (a:OpState×List PanPane×List LatPair),OpI j a.1 K→K+l.length≤1000→0≤K→(∀ w,w∈l→pWin w=true∧w.1≤x.2.1∧x.2.1<w.2)→(∀ p,p∈a.2.1→pPan p=true)→(∀ l,l∈a.2.2→pLat l=true) →
  OpI j (l.foldl (takeG j x) a).1 (K+l.length)∧(∀ p,p∈(l.foldl (takeG j x) a).2.1→pPan p=true)∧(∀ q,q∈(l.foldl (takeG j x) a).2.2→pLat q=true):=by
 intro l;induction l with
 | nil=>intro K a h _ _ _ h2 h3;refine ⟨?_,h2,h3⟩;simpa using h
 | cons w l ih =>
  intro K a h hK h0 hw h2 h3;simp only [List.length_cons] at hK;have hg:=takeG_ok hx h (by omega) h0 (hw w (List.mem_cons_self ..)) h2 h3;have:=ih (K+1) _ hg.1 (by omega) (by omega) (fun w hw'=>hw w (List.mem_cons_of_mem _ hw')) hg.2.1 hg.2.2;rw [List.foldl_cons];refine ⟨?_,this.2⟩;have e:K+1+(l.length:Int)=K+((w::l).length:Int):=by simp only [List.length_cons];omega
  rw [← e];exact this.1
theorem take_ok {j:JobJob} {s:OpState} {x:ItmItem} {K:Int} (hx:RecP x) (h:OpI j s K) (hK:K+4≤1000) (h0:0≤K) :
  OpI j (pTake j s x).1 (K+4)∧(∀ p,p∈(pTake j s x).2.1→pPan p=true)∧(∀ q,q∈(pTake j s x).2.2→pLat q=true):=by
 have h4:=pWins_4 h.job hx.t.1 hx.t.2;have:=take_fold hx (pWins j x.2.1) K (s,[],[]) h (by omega) h0 (pWins_ok h.job hx.t.1 hx.t.2) (by simp) (by simp);exact ⟨this.1.mono (by omega),this.2⟩
theorem take_len {j:JobJob} {s:OpState} {x:ItmItem} {K:Int} (hx:RecP x) (h:OpI j s K):(pTake j s x).1.2.length≤s.2.length+4∧(pTake j s x).2.1.length≤4*(s.2.length+5)∧(pTake j s x).2.2.length≤4∧(pTake j s x).1.1=s.1:=by
 have h4:=pWins_4 h.job hx.t.1 hx.t.2;have:=pTake_len (j:=j) (x:=x) (pWins j x.2.1) (s,[],[]) h.srt;obtain ⟨a,b,c,_,e⟩:=this;refine ⟨by simp only [pTake];simp only at a;omega,?_,by simp only [pTake];simp only [List.length_nil] at c;omega,e⟩;simp only [pTake];simp only [List.length_nil] at b;have h1:(s.2.length+(pWins j x.2.1).length+1)*(pWins j x.2.1).length≤(s.2.length+5)*4:=Nat.mul_le_mul (by omega) h4;omega
theorem take_panes {j:JobJob} {s:OpState} {x:ItmItem} {K:Int} (hx:RecP x) (h:OpI j s K):(pTake j s x).2.1.length≤s.2.length+4:=by
 obtain ⟨hk,hz,hl,hst,_⟩:=job_N h.job;have h4:=pWins_4 h.job hx.t.1 hx.t.2;by_cases k3:j.2.2.1=3
 ·have e:pWins j x.2.1=[(x.2.1,x.2.1+j.2.2.2.1)]:=by simp [pWins,k3]
  simp only [pTake,e,List.foldl_cons,List.foldl_nil];have:=(takeG_srt (j:=j) (x:=x) (a:=(s,[],[])) (x.2.1,x.2.1+j.2.2.2.1) h.srt).2.2.2.1;simp only [List.length_nil] at this;omega
 ·have k3':(j.2.2.1==(3:Int))=false:=by simpa using k3
  have:∀ (l:List WinWin) (a:OpState×List PanPane×List LatPair),Srt a.1.2→(l.foldl (takeG j x) a).2.1.length≤a.2.1.length+l.length:=by
   intro l;induction l with
   | nil=>intro a _;simp
   | cons w l ih =>
    intro a ha;have hg:=takeG_srt (j:=j) (x:=x) w ha;have:=ih _ hg.1;rw [List.foldl_cons];have h1:(takeG j x a w).2.1.length≤a.2.1.length+1:=by
     simp only [takeG,k3',bfe,if_false,List.length_append];have:=(into_srt (j:=j) x w ha).2.2.2;omega
    simp only [List.length_cons];omega
  have:=this (pWins j x.2.1) (s,[],[]) h.srt;simp only [List.length_nil] at this;simp only [pTake];omega
theorem markR_e (m:Int) (r:OpRow):(markR m r).1=r.1∧(markR m r).2.1=r.2.1∧(markR m r).2.2.1=r.2.2.1:=by
 simp only [markR];split<;>exact ⟨rfl,rfl,rfl⟩
theorem cnt_map_f (m:Int) (q:OpRow→Bool) (l:List OpRow) (h:∀ r,r∈l→0≤r.2.2.1.1):cnt ((l.map (markR m)).filter q)≤cnt l:=by
 induction l with
 | nil=>simp
 | cons r l ih =>
  have:=ih fun r hr=>h r (List.mem_cons_of_mem _ hr)
  have h0:=h r (List.mem_cons_self ..);have e:=(markR_e m r).2.2;simp only [List.map_cons,List.filter_cons];split<;>simp only [cnt_cons,e]<;>omega
theorem mark_ok {j:JobJob} {s:OpState} {m:Int} {K:Int} (h:OpI j s K) (h0:0≤m) (h1:m≤1000) (hK:K≤1000) :
  OpI j (pMark j s m).1 K∧(∀ p,p∈(pMark j s m).2→pPan p=true)∧(pMark j s m).1.1=(if m≤s.1 then s.1 else m)∧(pMark j s m).1.2.length≤s.2.length∧(pMark j s m).2.length≤s.2.length:=by
 have hl:=(job_N h.job).2.2.1;simp only [pMark];split
 ·rename_i hd;simp only [dte] at hd;exact ⟨h,by simp,by simp [hd],by simp,by simp⟩
 ·rename_i hd;simp only [dte] at hd;refine ⟨⟨h.job,⟨h0,h1⟩,?_,?_,?_,?_⟩,?_,by simp [hd],?_,?_⟩
  ·intro r hr;obtain ⟨hr,hkp⟩:=List.mem_filter.1 hr;obtain ⟨r0,hr0,rfl⟩:=List.mem_map.1 hr;obtain ⟨hp,ht⟩:=h.row r0 hr0;show RowP j m (markR m r0)∧(markR m r0).2.2.2.2.1≤(markR m r0).2.2.1.1;have hww:=(pWin_iff _).1 hp.win;have e:=markR_e m r0;simp only [keepR,e.2.1,dte] at hkp;rw [w6_id (by omega) (by omega)] at hkp;have hle:=h.le _ hr0;cases htl:tells m r0
   ·have em:markR m r0=r0:=by simp [markR,htl]
    rw [em];refine ⟨⟨hp.key,hp.win,hp.all,hp.fre,hp.fle,hp.told,hkp,?_,hp.tol,hp.frz⟩,ht⟩;have h2:=hp.tim;simp only [tells,Bool.and_eq_false_iff,Bool.not_eq_false',decide_eq_false_iff_not] at htl;constructor
    ·intro e;have:=h2.1 e;omega
    ·intro e;rcases htl with h|h
     ·exact h
     ·omega
   ·have em:markR m r0=toldR r0:=by simp [markR,htl]
    simp only [tells,bae,Bool.not_eq_true',dte] at htl;have h2:=hp.tol;have h3:=hp.all.1;have h4:=hp.told;have h5:r0.2.2.2.2.1=0:=by
     have:¬ r0.2.2.2.2.1>0:=by rw [← h2];simp [htl.1]
     omega
    rw [em];simp only [toldR];rw [w6_id (by omega) (by omega)];refine ⟨⟨hp.key,hp.win,hp.all,.inl rfl,by show (0:Int)≤r0.2.2.1.1;omega,by show 0≤r0.2.2.2.2.1+1∧r0.2.2.2.2.1+1≤1500;omega,hkp,?_,?_,by simp⟩,by show r0.2.2.2.2.1+1≤r0.2.2.1.1;omega⟩
    ·simp only [true_iff];omega
    ·simp only [true_iff];omega
  ·refine List.Pairwise.filter _ ?_;refine List.pairwise_map.2 ?_;refine List.Pairwise.imp ?_ h.srt;intro a b hab;have e1:=markR_e m a;have e2:=markR_e m b;simp only [ahead,e1,e2] at hab ⊢;exact hab
  ·intro h3;refine List.Pairwise.filter _ ?_;refine List.pairwise_map.2 ?_;refine List.Pairwise.imp ?_ (h.apart h3);intro a b hab;have e1:=markR_e m a;have e2:=markR_e m b;simp only [touchR,e1,e2] at hab ⊢;exact hab
  ·have:=cnt_map_f m (keepR j m) s.2 h.nn;have:=h.cnt;simp only;omega
  ·intro p hp;obtain ⟨r,hr,rfl⟩:=List.mem_map.1 hp;obtain ⟨hr,ht⟩:=List.mem_filter.1 hr;obtain ⟨hp,_⟩:=h.row r hr;simp only [tells,bae,Bool.not_eq_true',dte] at ht;have h2:=hp.tol;have h4:=hp.told;have h5:r.2.2.2.2.1=0:=by
    have:¬ r.2.2.2.2.1>0:=by rw [← h2];simp [ht.1]
    omega
   refine pan_ok hp.key hp.win hp.all ?_ h4 (.inl ⟨rfl,h5⟩);rcases hp.fre with hf|hf
   ·have:=hp.frz.2 (by rw [hf]);simp [ht.1] at this
   ·exact hf
  ·refine Nat.le_trans (List.length_filter_le _ _) (by simp)
  ·simp only [List.length_map];exact List.length_filter_le _ _
structure TskP (j:JobJob) (t:TskTask):Prop where
 op:pOp j t.2.1=true
 il:(t.1.length:Int)=j.1
 wall:0≤t.2.2.1∧t.2.2.1≤900
 pn:t.2.2.2.1=0
 pp:t.2.2.2.2.1.length≤1500∧∀ p,p∈t.2.2.2.2.1→pPan p=true
 pl:t.2.2.2.2.2.length≤1500∧∀ p,p∈t.2.2.2.2.2→pLat p=true
 ins:∀ c,c∈t.1→(c.1.length:Int)≤j.2.2.2.2.2.2.2.2.2∧(0≤c.2.1∧c.2.1≤1000)∧∀ x,x∈c.1→itmOk x=true
 held:tHeld t<t.1.length
 low:t.2.1.1=tLow t
theorem pTxn_iff (x:TskTxn):pTxn x=true↔(0≤x.1∧x.1≤900)∧(x.2.1.length≤1500∧∀ p,p∈x.2.1→pPan p=true)∧(x.2.2.length≤1500∧∀ p,p∈x.2.2→pLat p=true):=by
 simp only [pTxn,bae,inR_iff,dte,List.all_eq_true];constructor
 ·rintro ⟨⟨⟨⟨h1,h2⟩,h3⟩,h4⟩,h5⟩;exact ⟨h1,⟨by omega,h4⟩,by omega,h5⟩
 ·rintro ⟨h1,⟨h2,h4⟩,h3,h5⟩;exact ⟨⟨⟨⟨h1,by omega⟩,by omega⟩,h4⟩,h5⟩
theorem pTsk_iff (j:JobJob) (t:TskTask):pTsk j t=true↔TskP j t:=by
 constructor
 ·intro h;simp only [pTsk,bae,beq_iff_eq,dte,inR_iff,pTxn_iff,List.all_eq_true,pIn] at h;obtain ⟨⟨⟨⟨⟨⟨⟨h1,h2⟩,h3⟩,h4⟩,h5⟩,h6⟩,h7⟩,h8⟩:=h;exact ⟨h1,h2,h3,h5,h4.2.1,h4.2.2,fun c hc=>⟨(h6 c hc).1.1,(h6 c hc).1.2,(h6 c hc).2⟩,h7,h8⟩
 ·intro h;simp only [pTsk,bae,beq_iff_eq,dte,inR_iff,pTxn_iff,List.all_eq_true,pIn];exact ⟨⟨⟨⟨⟨⟨⟨h.op,h.il⟩,h.wall⟩,⟨by rw [h.pn];omega,h.pp,h.pl⟩⟩,h.pn⟩,fun c hc=>⟨⟨(h.ins c hc).1,(h.ins c hc).2.1⟩,(h.ins c hc).2.2⟩⟩,h.held⟩,h.low⟩
theorem map_mod {α β:Type} (f:α→β) (g:α→α) (h:∀ x,f (g x)=f x):∀ (l:List α) (n:Nat),(l.modify n g).map f=l.map f
 | [],n=>by cases n<;>simp
 | x::l,0=>by simp [h]
 | x::l,n+1=>by simp [map_mod f g h l n]
theorem held_map (t:TskTask):tHeld t=(t.1.map fun c=>c.2.2).foldl (fun n b=>if b then n+1 else n) 0:=by
 simp only [tHeld,List.foldl_map]
theorem low_map (t:TskTask):tLow t=(t.1.map fun c=>c.2.1).foldl (fun n m=>if m<n then m else n) 1000:=by
 simp only [tLow,List.foldl_map]
theorem lowI_facts:∀ (l:List Int) (n:Int),(l.foldl (fun n m=>if m<n then m else n) n≤n∧∀ m,m∈l→l.foldl (fun n m=>if m<n then m else n) n≤m)∧(l.foldl (fun n m=>if m<n then m else n) n=n∨l.foldl (fun n m=>if m<n then m else n) n∈l)
 | [],n=>by simp
 | a::l,n=>by
  have ih:=lowI_facts l (if a<n then a else n);rw [List.foldl_cons];by_cases ha:a<n
  ·simp only [ha,if_true] at ih ⊢;obtain ⟨⟨h1,h2⟩,h3⟩:=ih;refine ⟨⟨by omega,?_⟩,?_⟩
   ·intro m hm;rcases List.mem_cons.1 hm with e|hm
    ·omega
    ·exact h2 m hm
   ·rcases h3 with h3|h3
    ·right;rw [h3];exact List.mem_cons_self ..
    ·exact .inr (List.mem_cons_of_mem _ h3)
  ·simp only [ha,if_false] at ih ⊢;obtain ⟨⟨h1,h2⟩,h3⟩:=ih;refine ⟨⟨by omega,?_⟩,?_⟩
   ·intro m hm;rcases List.mem_cons.1 hm with e|hm
    ·omega
    ·exact h2 m hm
   ·rcases h3 with h3|h3
    ·exact .inl h3
    ·exact .inr (List.mem_cons_of_mem _ h3)
theorem low_le (t:TskTask):tLow t≤1000∧∀ c,c∈t.1→tLow t≤c.2.1:=by
 rw [low_map];have:=lowI_facts (t.1.map fun c=>c.2.1) 1000;exact ⟨this.1.1,fun c hc=>this.1.2 _ (List.mem_map.2 ⟨c,hc,rfl⟩)⟩
theorem low_ex (t:TskTask):tLow t=1000∨∃ c,c∈t.1∧tLow t=c.2.1:=by
 rw [low_map];have:=lowI_facts (t.1.map fun c=>c.2.1) 1000;rcases this.2 with h|h
 ·exact .inl h
 ·obtain ⟨c,hc,he⟩:=List.mem_map.1 h;exact .inr ⟨c,hc,he.symm⟩
theorem mem_mod {α:Type} {l:List α} {n:Nat} {g:α→α} {x:α} (h:x∈l.modify n g):x∈l∨∃ y,y∈l∧x=g y:=by
 obtain ⟨i,hi,rfl⟩:=List.mem_iff_getElem.1 h;have hi':i<l.length:=by simpa using hi
 rw [List.getElem_modify];split
 ·exact .inr ⟨_,List.getElem_mem hi',rfl⟩
 ·exact .inl (List.getElem_mem hi')
def wsum (w:ItmItem→Int) (q:List ItmItem):Int:=q.foldr (fun x n=>w x+n) 0
def qwt (w:ItmItem→Int) (t:TskTask):Int:=t.1.foldr (fun c n=>wsum w c.1+n) 0
theorem wsum_app (w:ItmItem→Int) (a b:List ItmItem):wsum w (a++b)=wsum w a+wsum w b:=by
 induction a with
 | nil=>simp [wsum]
 | cons x a ih=>simp only [List.cons_append,wsum,List.foldr_cons] at ih ⊢;omega
theorem wsum_nn {w:ItmItem→Int} (hw:∀ x,0≤w x) (q:List ItmItem):0≤wsum w q:=by
 induction q with
 | nil=>simp [wsum]
 | cons x a ih=>have:=hw x;simp only [wsum,List.foldr_cons] at ih ⊢;omega
theorem qwt_mod (w:ItmItem→Int) (op:OpState×Int×TskTxn) (g:TskIn→TskIn) (d:Int):∀ (l:List TskIn) (n:Nat) (h:n<l.length),wsum w (g l[n]).1=wsum w l[n].1+d→qwt w (l.modify n g,op)=qwt w (l,op)+d
 | c::l,0,h,he=>by simp only [qwt,List.modify_zero_cons,List.foldr_cons,List.getElem_cons_zero] at he ⊢;omega
 | c::l,n+1,h,he=>by
  have:=qwt_mod w op g d l n (by simpa using h) (by simpa using he);simp only [qwt,List.modify_succ_cons,List.foldr_cons] at this ⊢;omega
theorem qwt_nn {w:ItmItem→Int} (hw:∀ x,0≤w x) (t:TskTask):0≤qwt w t:=by
 obtain ⟨l,op⟩:=t;induction l with
 | nil=>simp [qwt]
 | cons c l ih=>have:=wsum_nn hw c.1;simp only [qwt,List.foldr_cons] at ih ⊢;omega
theorem qwt_map (w:ItmItem→Int) (op:OpState×Int×TskTxn) (g:TskIn→TskIn) (h:∀ c,(g c).1=c.1):∀ l:List TskIn,qwt w (l.map g,op)=qwt w (l,op)
 | []=>rfl
 | c::l=>by
  have:=qwt_map w op g h l;simp only [qwt,List.map_cons,List.foldr_cons,h] at this ⊢;omega
structure Wt (w:ItmItem→Int) (d:Int):Prop where
 nn:∀ x,0≤w x
 d0:0≤d
 rcd:∀ x,x.1=1→4≤w x+d
structure TskG (w:ItmItem→Int) (j:JobJob) (t:TskTask) (K W:Int):Prop where
 ok:TskP j t
 op:OpI j t.2.1 (K-qwt w t)
 wl:t.2.2.1≤W
 qw:∀ c,c∈t.1→∀ x,x∈c.1→x.1=3→x.2.2.2.2≤W
theorem held_rel (l:List TskIn) (op:OpState×Int×TskTxn):tHeld (l.map rel1,op)=0:=by
 have:∀ l:List TskIn,(l.map rel1).foldl (fun (n:Int) c=>if c.2.2 then n+1 else n) 0=0:=by
  intro l;induction l with
  | nil=>rfl
  | cons c l ih=>simpa [rel1] using ih
 exact this l
theorem itm_wall {x:ItmItem} (h:itmOk x=true) (hk:x.1=3):1≤x.2.2.2.2∧x.2.2.2.2≤900:=by
 simp only [itmOk,hk] at h;simp only [Int.reduceBEq,bfe,if_false,beq_self_eq_true,Bool.true_and,bae,inR_iff] at h;exact h.2
theorem itm_mark {x:ItmItem} (h:itmOk x=true) (hk:x.1=2):1≤x.2.1∧x.2.1≤1000:=by
 simp only [itmOk,hk] at h;simp only [Int.reduceBEq,bfe,if_false,if_true,beq_self_eq_true,Bool.true_and,bae,Bool.or_eq_true,inR_iff,beq_iff_eq] at h;omega
theorem tMay_iff {t:TskTask} {i:Int} (h:tMay t i=true):∃ n:Nat,i=n∧∃ hn:n<t.1.length,t.1[n].2.2=false∧0<t.1[n].1.length∧t.2.1.2.length≤280∧t.2.2.2.2.1.length≤1200∧t.2.2.2.2.2.length≤1480:=by
 simp only [tMay,tPend,bae,Bool.not_eq_true',decide_eq_false_iff_not] at h;obtain ⟨⟨⟨⟨h1,h2⟩,h3⟩,h4⟩,h5⟩:=h;obtain ⟨n,rfl,hn⟩:=inR_nat h1;simp only [Int.toNat_natCast,List.getElem?_eq_getElem hn,bae,Bool.not_eq_true',beq_eq_false_iff_ne] at h2;exact ⟨n,rfl,hn,h2.1,by omega,by omega,by omega,by omega⟩
theorem pop_map {β:Type} (f:TskIn→β) (h:∀ c:TskIn,f (c.1.drop 1,c.2)=f c) (t:TskTask) (n:Nat):(pPop t n).1.map f=t.1.map f:=map_mod f _ h t.1 n
theorem pop_held (t:TskTask) (n:Nat):tHeld (pPop t n)=tHeld t:=by
 rw [held_map,held_map,pop_map (fun c=>c.2.2) (fun _=>rfl)]
theorem pop_low (t:TskTask) (n:Nat):tLow (pPop t n)=tLow t:=by
 rw [low_map,low_map,pop_map (fun c=>c.2.1) (fun _=>rfl)]
theorem pop_ok {j:JobJob} {t:TskTask} (h:TskP j t) (n:Nat):TskP j (pPop t n):=by
 refine ⟨h.op,by simp only [pPop,List.length_modify];exact h.il,h.wall,h.pn,h.pp,h.pl,?_,?_,?_⟩
 ·intro c hc;rcases mem_mod hc with hc|⟨y,hy,rfl⟩
  ·exact h.ins c hc
  ·obtain ⟨a,b,c⟩:=h.ins y hy;refine ⟨by simp only [List.length_drop];omega,b,fun x hx=>c x (List.mem_of_mem_drop hx)⟩
 ·rw [pop_held];simp only [pPop,List.length_modify];exact h.held
 ·rw [pop_low];exact h.low
theorem TskG.pop {w:ItmItem→Int} {j:JobJob} {t:TskTask} {K W:Int} (h:TskG w j t K W) {n:Nat} (hn:n<t.1.length) (hq:0<t.1[n].1.length):TskP j (pPop t n)∧OpI j t.2.1 (K-qwt w (pPop t n)-w (headOf t n))∧(∀ c,c∈(pPop t n).1→∀ x,x∈c.1→x.1=3→x.2.2.2.2≤W):=by
 have hl:qwt w (pPop t n)=qwt w t-w (headOf t n):=by
  have hh:wsum w t.1[n].1=w (headOf t n)+wsum w (t.1[n].1.drop 1):=by
   simp only [headOf,List.getElem?_eq_getElem hn];cases e:t.1[n].1 with
   | nil=>rw [e] at hq;simp at hq
   | cons x q=>rfl
  have:=qwt_mod w t.2 (fun c=>(c.1.drop 1,c.2)) (- w (headOf t n)) t.1 n hn (by simp only;omega);simp only [pPop];rw [this];rfl
 refine ⟨pop_ok h.ok n,h.op.mono (by rw [hl];omega),?_⟩;intro c hc x hx;rcases mem_mod hc with hc|⟨y,hy,rfl⟩
 ·exact h.qw c hc x hx
 ·exact h.qw y hy x (List.mem_of_mem_drop hx)
def txnsOk (W:Int) (l:List TskTxn):Prop:=∀ x,x∈l→pTxn x=true∧1≤x.1∧x.1≤W
theorem low_mono {a b:TskTask} (h:a.1.length=b.1.length) (hm:∀ (i:Nat) (h1:i<a.1.length) (h2:i<b.1.length),a.1[i].2.1≤b.1[i].2.1):tLow a≤tLow b:=by
 rcases low_ex b with e|⟨c,hc,e⟩
 ·rw [e];exact (low_le a).1
 ·obtain ⟨i,hi,rfl⟩:=List.mem_iff_getElem.1 hc;have h1:=(low_le a).2 _ (List.getElem_mem (show i<a.1.length by omega));have:=hm i (by omega) hi;omega
theorem low_nn {t:TskTask} (h:∀ c,c∈t.1→0≤c.2.1):0≤tLow t:=by
 rcases low_ex t with e|⟨c,hc,e⟩
 ·omega
 ·rw [e];exact h c hc
theorem wall_ok {w:ItmItem→Int} {j:JobJob} {t:TskTask} {K W:Int} (hp:TskP j t) (ho:OpI j t.2.1 (K-qwt w t)) (hw:t.2.2.1≤W) (hq:∀ c,c∈t.1→∀ x,x∈c.1→x.1=3→x.2.2.2.2≤W) (i:Nat) (n:Int) (hn:1≤n∧n≤900) (hnW:n≤W):TskG w j (pWall t i n).1 K W∧txnsOk W (pWall t i n).2:=by
 have hS:=(job_S (pOp_job hp.op)).1;have hil:=hp.il;simp only [pWall];split
 ·exact ⟨⟨hp,ho,hw,hq⟩,by intro x hx;simp at hx⟩
 ·have e:∃ ins:List TskIn,((if decide (n>tWall t)=true then t.1.map rel1 else t.1).modify i hold1)=ins∧ins.length=t.1.length∧(ins.map fun c=>c.1)=(t.1.map fun c=>c.1)∧(ins.map fun c=>c.2.1)=(t.1.map fun c=>c.2.1):=by
   refine ⟨_,rfl,?_,?_,?_⟩
   ·simp only [List.length_modify];split<;>simp
   ·rw [map_mod (fun c:TskIn=>c.1) hold1 (fun _=>rfl)];split
    ·simp only [List.map_map];rfl
    ·rfl
   ·rw [map_mod (fun c:TskIn=>c.2.1) hold1 (fun _=>rfl)];split
    ·simp only [List.map_map];rfl
    ·rfl
  obtain ⟨ins,he,h1,h2,h3⟩:=e;rw [he];have hmem:∀ c,c∈ins→∃ d,d∈t.1∧c.1=d.1∧c.2.1=d.2.1:=by
   intro c hc;obtain ⟨k,hk,rfl⟩:=List.mem_iff_getElem.1 hc;have hk':k<t.1.length:=by omega
   refine ⟨t.1[k],List.getElem_mem hk',?_,?_⟩
   ·have:=congrArg (fun l=>l[k]?) h2;simpa [hk,hk'] using this
   ·have:=congrArg (fun l=>l[k]?) h3;simpa [hk,hk'] using this
  have hql:∀ o:OpState×Int×TskTxn,qwt w (ins,o)=qwt w t:=by
   intro o;have key:∀ (a b:List TskIn),(a.map fun c=>c.1)=(b.map fun c=>c.1)→a.foldr (fun c n=>wsum w c.1+n) 0=b.foldr (fun c n=>wsum w c.1+n) 0:=by
    intro a;induction a with
    | nil=>intro b hb;cases b with|nil=>rfl|cons y b=>simp at hb
    | cons x a ih =>
     intro b hb;cases b with
     | nil=>simp at hb
     | cons y b =>
      simp only [List.map_cons,List.cons.injEq] at hb;simp only [List.foldr_cons,ih b hb.2,hb.1]
   exact key ins t.1 h2
  have hlow:∀ o:OpState×Int×TskTxn,tLow (ins,o)=tLow t:=by
   intro o;rw [low_map,low_map];simp only [h3]
  have hins:∀ c,c∈ins→(c.1.length:Int)≤j.2.2.2.2.2.2.2.2.2∧(0≤c.2.1∧c.2.1≤1000)∧∀ x,x∈c.1→itmOk x=true:=by
   intro c hc;obtain ⟨d,hd,e1,e2⟩:=hmem c hc;rw [e1,e2];exact hp.ins d hd
  have hqw:∀ c,c∈ins→∀ x,x∈c.1→x.1=3→x.2.2.2.2≤W:=by
   intro c hc;obtain ⟨d,hd,e1,e2⟩:=hmem c hc;rw [e1];exact hq d hd
  split
  ·rename_i hh;simp only [dte] at hh;refine ⟨⟨⟨hp.op,by show (ins.length:Int)=j.1;omega,⟨by show 0≤n;omega,hn.2⟩,hp.pn,hp.pp,hp.pl,hins,?_,?_⟩,?_,hnW,hqw⟩,by intro x hx;simp at hx⟩
   ·exact hh
   ·rw [hlow];exact hp.low
   ·rw [hql];exact ho
  ·have hml:∀ c,c∈ins.map rel1→∃ d,d∈ins∧c.1=d.1∧c.2.1=d.2.1:=by
    intro c hc;obtain ⟨d,hd,rfl⟩:=List.mem_map.1 hc;exact ⟨d,hd,rfl,rfl⟩
   refine ⟨⟨⟨hp.op,by simp only [List.length_map];omega,⟨by show 0≤n;omega,hn.2⟩,rfl,⟨by simp,by simp⟩,⟨by simp,by simp⟩,?_,?_,?_⟩,?_,hnW,?_⟩,?_⟩
   ·intro c hc;obtain ⟨d,hd,e1,e2⟩:=hml c hc;rw [e1,e2];exact hins d hd
   ·rw [held_rel];simp only [List.length_map];omega
   ·have:tLow (ins.map rel1,t.2.1,n,((0:Int),([]:List PanPane),([]:List LatPair)))=tLow t:=by
     rw [low_map,low_map];simp only [List.map_map,←h3];rfl
    rw [this];exact hp.low
   ·rw [qwt_map w _ rel1 (fun _=>rfl),hql];exact ho
   ·intro c hc;obtain ⟨d,hd,e1,e2⟩:=hml c hc;rw [e1];exact hqw d hd
   ·intro x hx;rw [List.mem_singleton.1 hx];exact ⟨(pTxn_iff _).2 ⟨⟨by show 0≤n;omega,hn.2⟩,hp.pp,hp.pl⟩,hn.1,hnW⟩
theorem mark_ge (T:Int) (c:TskIn):c.2.1≤(if decide (T>c.2.1)=true then (c.1,T,c.2.2) else c:TskIn).2.1:=by
 split
 ·rename_i h;simp only [dte] at h;show c.2.1≤T;omega
 ·exact Int.le_refl _
theorem item_ok {w:ItmItem→Int} {d:Int} (hw:Wt w d) {j:JobJob} {t:TskTask} {K W:Int} (x:ItmItem) (hp:TskP j t) (ho:OpI j t.2.1 (K-qwt w t-w x)) (hK:K+d≤1000) (hwl:t.2.2.1≤W) (hq:∀ c,c∈t.1→∀ x,x∈c.1→x.1=3→x.2.2.2.2≤W) (i:Nat) (hx:itmOk x=true) (hxW:x.1=3→x.2.2.2.2≤W)
  (h1:t.2.1.2.length≤280) (h2:t.2.2.2.2.1.length≤1200) (h3:t.2.2.2.2.2.length≤1480):TskG w j (pItem j t i x).1 (K+d) W∧txnsOk W (pItem j t i x).2:=by
 have hj:=pOp_job hp.op;have hqn:=qwt_nn hw.nn t;have hwx:=hw.nn x;have hd0:=hw.d0;have hcn:=cnt_nn ho.nn;have hc:=ho.cnt;simp only [pItem];split
 ·rename_i k3;have k3:x.1=3:=by simpa using k3
  have h:=wall_ok (w:=w) (K:=K+d) hp (ho.mono (by omega)) hwl hq i _ (itm_wall hx k3) (hxW k3);exact h
 ·rename_i k3;split
  ·rename_i k2;have k2:x.1=2:=by simpa using k2
   have hm:=itm_mark hx k2;have e:∃ ins:List TskIn,(t.1.modify i fun c=>if decide (x.2.1>c.2.1)=true then (c.1,x.2.1,c.2.2) else c)=ins:=⟨_,rfl⟩
   obtain ⟨ins,he⟩:=e;have hlen:ins.length=t.1.length:=by rw [← he];simp
   have hg1:∀ c:TskIn,(if decide (x.2.1>c.2.1)=true then (c.1,x.2.1,c.2.2) else c:TskIn).1=c.1:=by intro c;split<;>rfl
   have hg2:∀ c:TskIn,(if decide (x.2.1>c.2.1)=true then (c.1,x.2.1,c.2.2) else c:TskIn).2.2=c.2.2:=by intro c;split<;>rfl
   have hge:∀ (k:Nat) (h1:k<t.1.length) (h2:k<ins.length),t.1[k].2.1≤ins[k].2.1:=by
    intro k a b;subst he;rw [List.getElem_modify];split
    ·exact mark_ge _ _
    ·exact Int.le_refl _
   have hins:∀ c,c∈ins→((c.1.length:Int)≤j.2.2.2.2.2.2.2.2.2∧(0≤c.2.1∧c.2.1≤1000)∧∀ x,x∈c.1→itmOk x=true)∧∀ x,x∈c.1→x.1=3→x.2.2.2.2≤W:=by
    intro c hc;rw [← he] at hc;rcases mem_mod hc with hc|⟨y,hy,rfl⟩
    ·exact ⟨hp.ins c hc,hq c hc⟩
    ·obtain ⟨a,b,c⟩:=hp.ins y hy;rw [hg1];refine ⟨⟨a,?_,c⟩,hq y hy⟩;split
     ·show 0≤x.2.1∧x.2.1≤1000;omega
     ·exact b
   have hheld:tHeld (ins,t.2)=tHeld t:=by
    rw [held_map,held_map,←he];simp only [map_mod (fun c:TskIn=>c.2.2) _ hg2]
   have hql:qwt w (ins,t.2)=qwt w t:=by
    rw [← he];by_cases hi:i<t.1.length
    ·have:=qwt_mod w t.2 (fun c=>if decide (x.2.1>c.2.1)=true then (c.1,x.2.1,c.2.2) else c) 0 t.1 i hi (by rw [hg1];omega);rw [this];show qwt w t+0=qwt w t;omega
    ·rw [List.modify_eq_self (by omega)]
   have hll:tLow t≤tLow (ins,t.2):=low_mono (a:=t) (b:=(ins,t.2)) hlen.symm hge;have hl0:0≤tLow (ins,t.2):=low_nn fun c hc=>((hins c hc).1.2.1).1
   have hl1:=(low_le (ins,t.2)).1;rw [he];have hmk:=mark_ok ho hl0 hl1 (by omega);have hlo:=hp.low;have hmk3:(pMark j t.2.1 (tLow (ins,t.2))).1.1=tLow (ins,t.2):=by
    rw [hmk.2.2.1];split<;>omega
   refine ⟨⟨⟨hmk.1.ok (by have:=hmk.2.2.2.1;omega),by show (ins.length:Int)=j.1;have:=hp.il;omega,hp.wall,hp.pn,⟨?_,?_⟩,hp.pl,fun c hc=>(hins c hc).1,?_,?_⟩,?_,hwl,fun c hc=>(hins c hc).2⟩,by intro y hy;simp at hy⟩
   ·have:=hmk.2.2.2.2;simp only [tOp,tPend,List.length_append] at *;omega
   ·intro p hpp;rcases lma.1 hpp with h|h
    ·exact hp.pp.2 p h
    ·exact hmk.2.1 p h
   ·have:tHeld t<t.1.length:=hp.held;show tHeld (ins,t.2)<(ins.length:Int);omega
   ·show (pMark j t.2.1 (tLow (ins,t.2))).1.1=tLow (ins,t.2);exact hmk3
   ·refine hmk.1.mono ?_;show K-qwt w t-w x≤K+d-qwt w (ins,t.2);omega
  ·rename_i k2;have hr:RecP x:=by
    refine recP_iff.2 ⟨?_,hx⟩;by_cases k1:x.1=1
    ·exact k1
    ·have k1':(x.1==(1:Int))=false:=by simpa using k1
     have k2':(x.1==(2:Int))=false:=by simpa using k2
     have k3':(x.1==(3:Int))=false:=by simpa using k3
     simp only [itmOk,k1',k2',k3',bfe,if_false,Bool.false_and] at hx
   have h4:=hw.rcd x hr.kind;have ht:=take_ok hr ho (by omega) (by omega);have hl:=take_len hr ho;have hpn:=take_panes hr ho;refine ⟨⟨⟨ht.1.ok (by have:=hl.1;omega),hp.il,hp.wall,hp.pn,⟨?_,?_⟩,⟨?_,?_⟩,hp.ins,hp.held,?_⟩,?_,hwl,hq⟩,by intro y hy;simp at hy⟩
   ·simp only [tOp,tPend,List.length_append] at *;omega
   ·intro p hpp;rcases lma.1 hpp with h|h
    ·exact hp.pp.2 p h
    ·exact ht.2.1 p h
   ·have:=hl.2.2.1;simp only [tOp,tPend,List.length_append] at *;omega
   ·intro p hpp;rcases lma.1 hpp with h|h
    ·exact hp.pl.2 p h
    ·exact ht.2.2 p h
   ·show (pTake j t.2.1 x).1.1=tLow t;rw [hl.2.2.2];exact hp.low
   ·refine ht.1.mono ?_;show K-qwt w t-w x+4≤K+d-qwt w t;have:=hw.rcd x hr.kind;omega
theorem step_ok {w:ItmItem→Int} {d:Int} (hw:Wt w d) {j:JobJob} {t:TskTask} {K W:Int} (h:TskG w j t K W) (hK:K+d≤1000) (c:Int):TskG w j (pTskStep j t c).1 (K+d) W∧txnsOk W (pTskStep j t c).2.1:=by
 have hp:=(pTsk_iff j t).2 h.ok;have hd0:=hw.d0;have hm:TskG w j t (K+d) W:=⟨h.ok,h.op.mono (by omega),h.wl,h.qw⟩
 simp only [pTskStep,hp,Bool.not_true,bfe,if_false];split
 ·exact ⟨hm,by intro x hx;simp at hx⟩
 ·rename_i hmay;have hmay:tMay t c=true:=by simpa using hmay
  obtain ⟨n,rfl,hn,h1,h2,h3,h4,h5⟩:=tMay_iff hmay;obtain ⟨p1,p2,p3⟩:=h.pop hn h2;simp only [Int.toNat_natCast];have hhd:headOf t n∈t.1[n].1:=by
   simp only [headOf,List.getElem?_eq_getElem hn];cases e:t.1[n].1 with
   | nil=>rw [e] at h2;simp at h2
   | cons x q=>exact List.mem_cons_self ..
  have hc:=List.getElem_mem hn;exact item_ok hw _ p1 p2 hK h.wl p3 n ((h.ok.ins _ hc).2.2 _ hhd) (fun k=>h.qw _ hc _ hhd k) h3 h4 h5
theorem put_ok {w:ItmItem→Int} {j:JobJob} {t:TskTask} {K W:Int} (h:TskG w j t K W) {n:Nat} (hn:n<t.1.length) {x:ItmItem} (hx:itmOk x=true) (hxW:x.1=3→x.2.2.2.2≤W) (hr:(t.1[n].1.length:Int)<j.2.2.2.2.2.2.2.2.2):TskG w j (putQ n x t) (K+w x) W:=by
 have hlen:(t.1.modify n fun c=>(c.1++[x],c.2)).length=t.1.length:=by simp
 have hmem:∀ c,c∈(t.1.modify n fun c=>(c.1++[x],c.2))→c∈t.1∨c=(t.1[n].1++[x],t.1[n].2):=by
  intro c hc;obtain ⟨i,hi,rfl⟩:=List.mem_iff_getElem.1 hc;have hi':i<t.1.length:=by omega
  rw [List.getElem_modify];split
  ·rename_i e;subst e;exact .inr rfl
  ·exact .inl (List.getElem_mem hi')
 have hc:=h.ok.ins _ (List.getElem_mem hn);refine ⟨⟨h.ok.op,by simp only [putQ,hlen];exact h.ok.il,h.ok.wall,h.ok.pn,h.ok.pp,h.ok.pl,?_,?_,?_⟩,?_,h.wl,?_⟩
 ·intro c hc';rcases hmem c hc' with h1|rfl
  ·exact h.ok.ins c h1
  ·refine ⟨by simp only [List.length_append,List.length_singleton];omega,hc.2.1,?_⟩;intro y hy;rcases lma.1 hy with h1|h1
   ·exact hc.2.2 y h1
   ·rw [List.mem_singleton.1 h1];exact hx
 ·have:tHeld (putQ n x t)=tHeld t:=by
   rw [held_map,held_map];simp only [putQ];rw [map_mod (fun c:TskIn=>c.2.2) (fun c=>(c.1++[x],c.2)) (fun _=>rfl)]
  rw [this];simp only [putQ,hlen];exact h.ok.held
 ·have:tLow (putQ n x t)=tLow t:=by
   rw [low_map,low_map];simp only [putQ];rw [map_mod (fun c:TskIn=>c.2.1) (fun c=>(c.1++[x],c.2)) (fun _=>rfl)]
  rw [this];exact h.ok.low
 ·have:qwt w (putQ n x t)=qwt w t+w x:=by
   have:=qwt_mod w t.2 (fun c=>(c.1++[x],c.2)) (w x) t.1 n hn (by simp only [wsum_app];simp [wsum]);simp only [putQ];rw [this]
  rw [this];exact h.op.mono (by omega)
 ·intro c hc' y hy hk;rcases hmem c hc' with h1|rfl
  ·exact h.qw c h1 y hy hk
  ·rcases lma.1 hy with h1|h1
   ·exact h.qw _ (List.getElem_mem hn) y h1 hk
   ·rw [List.mem_singleton.1 h1] at hk ⊢;exact hxW hk
theorem room_get {f:FloFlow} {n:Nat} {a:Int} (h:fRoom f n a=true) {i:Nat} (hi:i<(fT f).length) (hs:sel a i=true) (hn:n<(fT f)[i].1.length):((fT f)[i].1[n].1.length:Int)<f.1.2.2.2.2.2.2.2.2.2:=by
 have:=List.all_eq_true.1 h i (List.mem_range.2 hi);have e:(fT f)[i].1[n]? = some (fT f)[i].1[n]:=List.getElem?_eq_getElem hn;simp only [roomAt,List.getElem?_eq_getElem hi,hs,Bool.true_and,e,Bool.not_eq_true',decide_eq_false_iff_not] at this;omega
structure SnkP (s:FloSink):Prop where
 len:s.1.length≤12
 n:0≤s.2.1∧s.2.1≤900
 pp:s.2.2.1.length≤1500∧∀ p,p∈s.2.2.1→pPan p=true
 pl:s.2.2.2.length≤1500∧∀ p,p∈s.2.2.2→pLat p=true
 rise:rise s.2.1 s.1=true
theorem pSink_iff (s:FloSink):pSink s=true↔SnkP s:=by
 simp only [pSink,bae,dte,inR_iff,List.all_eq_true];constructor
 ·rintro ⟨⟨⟨⟨⟨⟨h1,h2⟩,h3⟩,h4⟩,h5⟩,h6⟩,h7⟩;exact ⟨by omega,h2,⟨by omega,h6⟩,⟨by omega,h7⟩,h5⟩
 ·intro h;exact ⟨⟨⟨⟨⟨⟨by have:=h.len;omega,h.n⟩,by have:=h.pp.1;omega⟩,by have:=h.pl.1;omega⟩,h.rise⟩,h.pp.2⟩,h.pl.2⟩
theorem rise_app:∀ (l:List TskTxn) (n:Int) (x:TskTxn),rise n (l++[x])=true↔rise n l=true∧pTxn x=true∧n<x.1∧(∀ y,l.getLast? = some y→y.1<x.1)
 | [],n,x=>by simp [rise]
 | [a],n,x=>by
  simp only [List.cons_append,List.nil_append,rise,bae,dte,List.getLast?_singleton,osi,and_true];constructor
  ·rintro ⟨⟨h1,h2⟩,h3,h4⟩;exact ⟨⟨h1,h2⟩,h3,by omega,fun y hy=>by subst hy;exact h4⟩
  ·rintro ⟨⟨h1,h2⟩,h3,h4,h5⟩;exact ⟨⟨h1,h2⟩,h3,h5 a rfl⟩
 | a::b::l,n,x=>by
  have ih:=rise_app (b::l) a.1 x;have e:rise n (a::b::l++[x])=(pTxn a&&decide (n<a.1)&&rise a.1 (b::l++[x])):=rfl;have e2:rise n (a::b::l)=(pTxn a&&decide (n<a.1)&&rise a.1 (b::l)):=rfl;simp only [e,e2,bae,dte,ih];have hl:(a::b::l).getLast? = (b::l).getLast? := List.getLast?_cons_cons;rw [hl];constructor
  ·rintro ⟨⟨h1,h2⟩,h3,h4,h5,h6⟩;exact ⟨⟨⟨h1,h2⟩,h3⟩,h4,by omega,h6⟩
  ·rintro ⟨⟨⟨h1,h2⟩,h3⟩,h4,h5,h6⟩;refine ⟨⟨h1,h2⟩,h3,h4,?_,h6⟩;obtain ⟨y,hy⟩:∃ y,(b::l).getLast? = some y:=⟨(b::l).getLast (by simp),List.getLast?_eq_some_getLast (by simp)⟩
   have:=h6 y hy;have hym:=List.mem_of_getLast? hy;have:=((rise_iff (b::l) a.1).1 h3).1 y hym;omega
theorem openL_some {r:List TskTxn} {safe:Int} {l:TskTxn} (h:openL r safe=some l):r.getLast? = some l∧l.1>safe:=by
 simp only [openL] at h;cases e:r.getLast? with
 | none=>rw [e] at h;cases h
 | some x =>
  rw [e] at h;simp only at h;split at h
  ·rename_i hd;cases h;simp only [dte] at hd;exact ⟨rfl,hd⟩
  ·cases h
theorem joined_ok {s:FloSink} {safe:Int} {x:TskTxn} (h:SnkP s) (hx:pTxn x=true)
  (hf:fullS s.1 safe x=false):SnkP (pJoined s safe x,s.2):=by
 simp only [pJoined];simp only [fullS] at hf;split
 ·exact h
 ·rename_i hc;simp only [Bool.or_eq_true,dte,not_or,lastGe] at hc;obtain ⟨hc1,hc2⟩:=hc;have hxp:=(pTxn_iff x).1 hx;cases ho:openL s.1 safe with
  | none =>
   rw [ho] at hf;simp only [beq_eq_false_iff_ne] at hf;refine ⟨by simp only [List.length_append,List.length_singleton];have:=h.len;omega,h.n,h.pp,h.pl,?_⟩;simp only;rw [rise_app];refine ⟨h.rise,hx,by omega,?_⟩;intro y hy;rw [hy] at hc2;simp only [dte] at hc2;omega
  | some l =>
   rw [ho] at hf;simp only [Bool.or_eq_false_iff,decide_eq_false_iff_not] at hf;obtain ⟨hl,_⟩:=openL_some ho;have hlm:=List.mem_of_getLast? hl;have hri:=(rise_iff s.1 s.2.1).1 h.rise;have hlp:=(pTxn_iff l).1 (hri.1 l hlm).1;have hdl:s.1=s.1.dropLast++[l]:=by
    obtain ⟨ys,hy⟩:=List.getLast?_eq_some_iff.1 hl;rw [hy,List.dropLast_concat]
   have hr:=h.rise;rw [hdl,rise_app] at hr;rw [hl] at hc2;simp only [dte] at hc2;refine ⟨by simp only [List.length_append,List.length_singleton,List.length_dropLast];have:=h.len;omega,h.n,h.pp,h.pl,?_⟩;simp only;rw [rise_app];refine ⟨hr.1,(pTxn_iff _).2 ⟨hxp.1,⟨by simp only [List.length_append];omega,?_⟩,⟨by simp only [List.length_append];omega,?_⟩⟩,by simp only;omega,?_⟩
   ·intro p hp;rcases lma.1 hp with hp|hp
    ·exact hlp.2.1.2 p hp
    ·exact hxp.2.1.2 p hp
   ·intro p hp;rcases lma.1 hp with hp|hp
    ·exact hlp.2.2.2 p hp
    ·exact hxp.2.2.2 p hp
   ·intro y hy;have:=hr.2.2.2 y hy;simp only;omega
theorem cmt_rest (safe:Int):∀ (l:List TskTxn) (w:TskTxn) (r:List TskTxn),r≠[]→l.foldl (cmtG safe) (w,r)=(w,r++l)
 | [],w,r,_=>by simp
 | x::l,w,r,h=>by
  have hl:(((r.length:Nat):Int)==0)=false:=by
   have:r.length≠0:=fun e=>h (List.length_eq_zero_iff.1 e)
   simp only [beq_eq_false_iff_ne];omega
  rw [List.foldl_cons];have:cmtG safe (w,r) x=(w,r++[x]):=by
   simp only [cmtG,hl,Bool.and_false,Bool.false_and,bfe,if_false]
  rw [this,cmt_rest safe l w (r++[x]) (by simp)];simp
theorem commit_ok (safe:Int):∀ (l:List TskTxn) (w:TskTxn),SnkP (l,w)→SnkP ((l.foldl (cmtG safe) (w,[])).2,(l.foldl (cmtG safe) (w,[])).1)
 | [],w,h=>h
 | x::l,w,h=>by
  rw [List.foldl_cons];have hr:=h.rise;simp only [rise,bae,dte] at hr;have hxp:=(pTxn_iff x).1 hr.1.1;by_cases hc:(decide (x.1≤safe)&&((([]:List TskTxn).length:Int)==0)&&decide (((w.2.1.length:Int)+x.2.1.length)≤1500)&&decide (((w.2.2.length:Int)+x.2.2.length)≤1500))=true
  ·have e:cmtG safe (w,[]) x=((x.1,w.2.1++x.2.1,w.2.2++x.2.2),[]):=by simp only [cmtG,hc,if_true]
   simp only [bae,dte] at hc;rw [e];refine commit_ok safe l _ ⟨?_,hxp.1,⟨?_,?_⟩,⟨?_,?_⟩,hr.2⟩
   ·have:=h.len;simp only [List.length_cons] at this;simp only;omega
   ·simp only [List.length_append];omega
   ·intro p hp;rcases lma.1 hp with hp|hp
    ·exact h.pp.2 p hp
    ·exact hxp.2.1.2 p hp
   ·simp only [List.length_append];omega
   ·intro p hp;rcases lma.1 hp with hp|hp
    ·exact h.pl.2 p hp
    ·exact hxp.2.2.2 p hp
  ·have e:cmtG safe (w,[]) x=(w,[x]):=by simp only [cmtG,hc];rfl
   rw [e,cmt_rest safe l w [x] (by simp)];exact h
theorem filter_rise (p:TskTxn→Bool) {l:List TskTxn} {n:Int} (h:rise n l=true):rise n (l.filter p)=true:=by
 rw [rise_iff] at h ⊢;exact ⟨fun x hx=>h.1 x (List.mem_filter.1 hx).1,List.Pairwise.filter p h.2⟩
theorem step_pend {j:JobJob} {t:TskTask} {c:Int} {x:TskTxn} (h:x∈(pTskStep j t c).2.1):x.2=t.2.2.2.2:=by
 simp only [pTskStep] at h;split at h
 ·simp at h
 ·split at h
  ·simp at h
  ·simp only [pItem,pWall] at h;split at h
   ·split at h
    ·simp at h
    ·split at h
     ·split at h
      ·simp at h
      ·rw [List.mem_singleton.1 h];rfl
     ·split at h
      ·simp at h
      ·rw [List.mem_singleton.1 h];rfl
   ·split at h<;>simp at h
def fDoes (f:FloFlow) (e:EvEvent):FloFlow :=
 if e.1==1 then fSrc f e.2.1
 else if e.1==2 then fTask f e.2.1 e.2.2
 else if e.1==3 then (f.1,f.2.1,f.2.2.1,f.2.2.2.1,f.2.2.2.2.1,pCkpAsk f.1 (fC f))
 else if e.1==4 then (f.1,f.2.1,f.2.2.1,f.2.2.2.1,f.2.2.2.2.1,(pCkpSave f.1 (fC f)).1)
 else if e.1==5 then (f.1,f.2.1,f.2.2.1,f.2.2.2.1,f.2.2.2.2.1,cDrop f.1 (fC f))
 else if e.1==6 then fCommit f e.2.1
 else if e.1==7 then fCrash f
 else f
def fStep (f:FloFlow) (e:EvEvent):FloFlow:=if !pFlo f then floZ else fDoes f e
structure FG (w:ItmItem→Int) (K:Int) (f:FloFlow):Prop where
 ok:FloP f
 tsk:∀ t,t∈fT f→TskG w (fJ f) t K (fC f).1
 snp:∀ (i:Nat) (h1:i<(fC f).2.2.2.1.length) (h2:i<(cSnaps (fC f)).length),(fC f).2.2.2.1[i]=true→OpI (fJ f) (cSnaps (fC f))[i].1 K
 sfs:∀ s,s∈(cSafe (fC f)).2.2→OpI (fJ f) s.1 K
 src:∀ (i:Nat) (h1:i<(fL f).length) (h2:i<(fC f).2.2.1.length),(fC f).2.2.1[i]≤(fL f)[i].length
theorem TskG.mono {w:ItmItem→Int} {j:JobJob} {t:TskTask} {K K' W W':Int} (h:TskG w j t K W) (hk:K≤K') (hw:W≤W'):TskG w j t K' W':=⟨h.ok,h.op.mono (by omega),by have:=h.wl;omega,fun c hc x hx k=>by have:=h.qw c hc x hx k;omega⟩
theorem FG.mono {w:ItmItem→Int} {K K':Int} {f:FloFlow} (h:FG w K f) (hk:K≤K'):FG w K' f:=⟨h.ok,fun t ht=>(h.tsk t ht).mono hk (Int.le_refl _),fun i a b c=>(h.snp i a b c).mono hk,fun s hs=>(h.sfs s hs).mono hk,h.src⟩
def uns (w:ItmItem→Int):List (List ItmItem)→List WinWin→Int
 | l::lg,s::sr=>wsum w (l.drop s.1.toNat)+uns w lg sr
 | _,_=>0
theorem uns_set (w:ItmItem→Int) (s':WinWin):∀ (lg:List (List ItmItem)) (sr:List WinWin) (n:Nat) (h1:n<lg.length) (h2:n<sr.length),uns w lg (sr.set n s')=uns w lg sr-wsum w (lg[n].drop sr[n].1.toNat)+wsum w (lg[n].drop s'.1.toNat)
 | [],_,_,h1,_=>by simp at h1
 | _::_,[],_,_,h2=>by simp at h2
 | l::lg,s::sr,0,_,_=>by simp only [List.set_cons_zero,uns,List.getElem_cons_zero];omega
 | l::lg,s::sr,n+1,h1,h2=>by
  have:=uns_set w s' lg sr n (by simpa using h1) (by simpa using h2);simp only [List.set_cons_succ,uns,List.getElem_cons_succ,this];omega
theorem uns_nn {w:ItmItem→Int} (hw:∀ x,0≤w x):∀ (lg:List (List ItmItem)) (sr:List WinWin),0≤uns w lg sr
 | [],_=>by simp [uns]
 | _::_,[]=>by simp [uns]
 | l::lg,s::sr=>by have:=uns_nn hw lg sr;have:=wsum_nn hw (l.drop s.1.toNat);simp only [uns];omega
theorem drop_w (w:ItmItem→Int) {l:List ItmItem} {n:Nat} (h:n<l.length):wsum w (l.drop n)=w l[n]+wsum w (l.drop (n+1)):=by
 rw [List.drop_eq_getElem_cons h];rfl
theorem logOk_items {l:List ItmItem} (h:logOk l=true):∀ x,x∈l→itmOk x=true∧x.1≠3:=by
 have key:∀ (l:List ItmItem) (g:Int),logGo g l=true→∀ x,x∈l→itmOk x=true∧x.1≠3:=by
  intro l;induction l with
  | nil=>intro g _ x hx;simp at hx
  | cons y l ih =>
   intro g h x hx;simp only [logGo] at h;split at h
   ·cases h
   ·rename_i hc;simp only [Bool.or_eq_true,Bool.not_eq_true',not_or,beq_iff_eq] at hc;rcases List.mem_cons.1 hx with rfl|hx
    ·exact ⟨by simpa using hc.1.1,hc.1.2⟩
    ·exact ih _ h x hx
 simp only [logOk,bae] at h;exact key l 0 h.1.2
theorem CkpP.src' {j:JobJob} {c:CkpState} (h:CkpP j c) (l:List Int) (hl:l.length=c.2.2.1.length) (hc:∀ n,n∈l→(-1≤n∧n≤40)∧(c.2.1=true∨n = -1)):CkpP j (c.1,c.2.1,l,c.2.2.2) :=
 ⟨h.job,h.n,h.sn,h.opn,by show (l.length:Int)=j.1;rw [hl];exact h.srcl,h.tskl,h.snpl,h.atl,h.ssl,h.at_,h.ss,hc,h.snp⟩
theorem FG.upd {w:ItmItem→Int} {K K':Int} (hK:K≤K') {f:FloFlow} (h:FG w K f) (sr:List WinWin) (tk:List TskTask) (sc:List Int) (h1:sr.length=(fS f).length) (h2:tk.length=(fT f).length) (h3:sc.length=(fC f).2.2.1.length)
  (hs:∀ (i:Nat) (h1:i<(fL f).length) (h2:i<sr.length),(0≤sr[i].1∧sr[i].1≤(fL f)[i].length)∧(0≤sr[i].2∧sr[i].2≤(fC f).1))
  (ht:∀ t,t∈tk→TskG w (fJ f) t K' (fC f).1) (hc:∀ n,n∈sc→(-1≤n∧n≤40)∧((fC f).2.1=true∨n = -1)) (hl:∀ (i:Nat) (h1:i<(fL f).length) (h2:i<sc.length),sc[i]≤(fL f)[i].length) :
  FG w K' (f.1,f.2.1,sr,tk,f.2.2.2.2.1,(fC f).1,(fC f).2.1,sc,(fC f).2.2.2):=by
 refine ⟨⟨h.ok.ckp.src' sc h3 hc,h.ok.ll,?_,?_,h.ok.kl,h.ok.log,hs,h.ok.saf,?_,h.ok.snk⟩,?_,?_,?_,hl⟩
 ·show (sr.length:Int)=f.1.1;rw [h1];exact h.ok.sl
 ·show (tk.length:Int)=f.1.2.1;rw [h2];exact h.ok.tl
 ·intro t ht';exact ⟨(pTsk_iff _ _).2 (ht t ht').ok,(ht t ht').wl⟩
 ·intro t ht';exact ht t ht'
 ·intro i a b c;exact (h.snp i a b c).mono hK
 ·intro s hs';exact (h.sfs s hs').mono hK
theorem set_get {α:Type} {l:List α} {n:Nat} {x:α} {P:Nat→α→Prop} (h0:∀ (i:Nat) (h:i<l.length),i≠n→P i l[i]) (h1:n<l.length→P n x) (i:Nat) (h:i<(l.set n x).length):P i (l.set n x)[i]:=by
 have hi:i<l.length:=by simpa using h
 rw [List.getElem_set];split
 ·rename_i e;subst e;exact h1 hi
 ·rename_i e;exact h0 i hi fun e2=>e e2.symm
theorem mem_set' {α:Type} {l:List α} {n:Nat} {x y:α} (h:y∈l.set n x):y∈l∨y=x:=List.mem_or_eq_of_mem_set h
theorem mapIdx_mem {f:FloFlow} {n:Nat} {a:Int} {x:ItmItem} {t:TskTask} (h:t∈(fSend f n a x).2.2.2.1):∃ (i:Nat) (hi:i<(fT f).length),t=if sel a i then putQ n x (fT f)[i] else (fT f)[i]:=by
 simp only [fSend] at h;obtain ⟨i,hi,rfl⟩:=List.mem_iff_getElem.1 h;have hi':i<(fT f).length:=by simpa using hi
 refine ⟨i,hi',?_⟩;rw [List.getElem_mapIdx]
theorem send_ok {w:ItmItem→Int} {K K':Int} (hK:K≤K') {f:FloFlow} (h:FG w K f) {n:Nat} (hn:n<(fS f).length) {a:Int} {x:ItmItem} (hr:fRoom f n a=true) (hx:itmOk x=true) (hxW:x.1=3→x.2.2.2.2≤(fC f).1) (hwx:K+w x≤K'):(fSend f n a x).2.2.2.1.length=(fT f).length∧∀ t,t∈(fSend f n a x).2.2.2.1→TskG w (fJ f) t K' (fC f).1:=by
 refine ⟨by simp [fSend],?_⟩;intro t ht;obtain ⟨i,hi,rfl⟩:=mapIdx_mem ht;have hti:=h.tsk _ (List.getElem_mem hi);have hil:((fT f)[i].1.length:Int)=(fJ f).1:=hti.ok.il;have hsl:((fS f).length:Int)=(fJ f).1:=h.ok.sl;have hn':n<(fT f)[i].1.length:=by omega
 cases hs:sel a i
 ·simp only [bfe,if_false];exact hti.mono hK (Int.le_refl _)
 ·simp only [if_true];exact (put_ok hti hn' hx hxW (room_get hr hi hs hn')).mono hwx (Int.le_refl _)
theorem src_ok {w:ItmItem→Int} {K K':Int} (hK:K≤K') (hWl:∀ N,K+w (3,0,0,0,N)≤K') {f:FloFlow} (h:FG w K f) (i:Int):K+uns w (fL f) (fS f)-uns w (fL f) (fS (fSrc f i))≤K'→FG w K' (fSrc f i)∧(fSrc f i).1=f.1∧(fSrc f i).2.1=f.2.1:=by
 have hm:FG w K' f:=h.mono hK;have hj:=h.ok.ckp.job;have hll:((fL f).length:Int)=(fJ f).1:=h.ok.ll;have hsl:((fS f).length:Int)=(fJ f).1:=h.ok.sl;have hcl:(((fC f).2.2.1.length:Nat):Int)=(fJ f).1:=h.ok.ckp.srcl;simp only [fSrc];cases hin:inR i 0 (((fS f).length:Int)-1)
 ·exact fun _=>⟨hm,rfl,rfl⟩
 obtain ⟨n,rfl,hn⟩:=inR_nat hin;have hnL:n<(fL f).length:=by omega
 have hnC:n<(fC f).2.2.1.length:=by omega
 have es:(fS f)[n]?.getD (0,0)=(fS f)[n]:=by rw [List.getElem?_eq_getElem hn];rfl
 have el:(fL f)[n]?.getD []=(fL f)[n]:=by rw [List.getElem?_eq_getElem hnL];rfl
 obtain ⟨b1,b2⟩:=h.ok.src n hnL hn;have hlo:=h.ok.log _ (List.getElem_mem hnL);have hll2:=logOk_len hlo;simp only [Bool.not_true,bfe,if_false,Int.toNat_natCast,es,el];have hCn:=h.ok.ckp.n;have hCs:=h.ok.ckp.sn;split
 ·rename_i hop;simp only [bae,dte] at hop;split
  ·exact fun _=>⟨hm,rfl,rfl⟩
  ·rename_i hr;have hr:fRoom f n (-1)=true:=by simpa using hr
   have hne:=h.ok.ckp.opn hop.1;have hx:itmOk (3,0,0,0,(fC f).1)=true:=by
    have:inR (fC f).1 1 900=true:=inR_iff.2 (by simp only [fC] at *;omega);simp only [itmOk,this];rfl
   have hs:=send_ok hK h hn hr hx (fun _=>Int.le_refl _) (hWl _);refine fun _=>⟨h.upd hK ((fS f).set n ((fS f)[n].1,(fC f).1)) _ ((fC f).2.2.1.set n (fS f)[n].1) (by simp) hs.1 (by simp) ?_ hs.2 ?_ ?_,rfl,rfl⟩
   ·intro i a b;have:=set_get (l:=fS f) (n:=n) (x:=((fS f)[n].1,(fC f).1)) (P:=fun i w=>∀ (a:i<(fL f).length),(0≤w.1∧w.1≤(fL f)[i].length)∧(0≤w.2∧w.2≤(fC f).1)) (fun i hi _ a=>h.ok.src i a hi) (fun hi a=>⟨b1,by simp only [fC] at *;omega⟩) i b a;exact this
   ·intro m hm';rcases mem_set' hm' with hm'|rfl
    ·exact h.ok.ckp.src m hm'
    ·exact ⟨by omega,.inl hop.1⟩
   ·intro i a b;exact set_get (l:=(fC f).2.2.1) (n:=n) (x:=(fS f)[n].1) (P:=fun i w=>∀ (a:i<(fL f).length),w≤(fL f)[i].length) (fun i hi _ a=>h.src i a hi) (fun hi a=>b1.2) i b a
 ·split
  ·exact fun _=>⟨hm,rfl,rfl⟩
  ·rename_i hne;have hne:(fS f)[n].1≠((fL f)[n].length:Int):=by simpa using hne
   have hk:(fS f)[n].1.toNat<(fL f)[n].length:=by omega
   have hx2:(fL f)[n][(fS f)[n].1.toNat]?.getD (0,0,0,0,0)=(fL f)[n][(fS f)[n].1.toNat]:=by rw [List.getElem?_eq_getElem hk];rfl
   have hxi:=logOk_items hlo _ (List.getElem_mem hk);simp only [hx2];have hdw:=drop_w w hk;have hus:=uns_set w ((fS f)[n].1+1,(fS f)[n].2) (fL f) (fS f) n hnL hn;have htn:((fS f)[n].1+1).toNat=(fS f)[n].1.toNat+1:=by omega
   simp only [htn] at hus;generalize (fL f)[n][(fS f)[n].1.toNat]=x at *;have hw:w6 ((fS f)[n].1+1)=(fS f)[n].1+1:=w6_id (by omega) (by omega);have hsb:∀ (i:Nat) (a:i<(fL f).length) (b:i<((fS f).set n ((fS f)[n].1+1,(fS f)[n].2)).length),(0≤((fS f).set n ((fS f)[n].1+1,(fS f)[n].2))[i].1∧((fS f).set n ((fS f)[n].1+1,(fS f)[n].2))[i].1≤(fL f)[i].length)∧(0≤((fS f).set n ((fS f)[n].1+1,(fS f)[n].2))[i].2∧((fS f).set n ((fS f)[n].1+1,(fS f)[n].2))[i].2≤(fC f).1):=by
    intro i a b;exact set_get (l:=fS f) (n:=n) (x:=((fS f)[n].1+1,(fS f)[n].2)) (P:=fun i w=>∀ (a:i<(fL f).length),(0≤w.1∧w.1≤(fL f)[i].length)∧(0≤w.2∧w.2≤(fC f).1)) (fun i hi _ a=>h.ok.src i a hi) (fun hi a=>⟨by simp only;omega,b2⟩) i b a
   simp only [hw];split
   ·generalize (if (x.1==1)=true then Int.tmod x.2.2.1 f.1.2.1 else -1)=ta;split
    ·exact fun _=>⟨hm,rfl,rfl⟩
    ·rename_i hr;have hr:fRoom f n ta=true:=by simpa using hr
     intro hU;have hU:K+uns w (fL f) (fS f)-uns w (fL f) ((fS f).set n ((fS f)[n].1+1,(fS f)[n].2))≤K':=hU;have hs:=send_ok hK h hn hr hxi.1 (fun e=>absurd e hxi.2) (by omega);exact ⟨h.upd hK _ _ (fC f).2.2.1 (by simp) hs.1 rfl hsb hs.2 h.ok.ckp.src h.src,rfl,rfl⟩
   ·exact fun _=>⟨h.upd hK _ (fT f) (fC f).2.2.1 (by simp) rfl rfl hsb (fun t ht=>(h.tsk t ht).mono hK (Int.le_refl _)) h.ok.ckp.src h.src,rfl,rfl⟩
theorem uns_src {w:ItmItem→Int} {b:Int} (hw:∀ x,0≤w x) (hb:∀ x,w x≤b) {f:FloFlow} (h:FloP f) (i:Int):0≤uns w (fL f) (fS f)-uns w (fL f) (fS (fSrc f i))∧uns w (fL f) (fS f)-uns w (fL f) (fS (fSrc f i))≤b:=by
 have hb0:0≤b:=by have:=hw (0,0,0,0,0);have:=hb (0,0,0,0,0);omega
 have same:0≤uns w (fL f) (fS f)-uns w (fL f) (fS f)∧uns w (fL f) (fS f)-uns w (fL f) (fS f)≤b:=by omega
 have hll:((fL f).length:Int)=(fJ f).1:=h.ll;have hsl:((fS f).length:Int)=(fJ f).1:=h.sl;simp only [fSrc];cases hin:inR i 0 (((fS f).length:Int)-1)
 ·exact same
 obtain ⟨n,rfl,hn⟩:=inR_nat hin;have hnL:n<(fL f).length:=by omega
 have es:(fS f)[n]?.getD (0,0)=(fS f)[n]:=by rw [List.getElem?_eq_getElem hn];rfl
 have el:(fL f)[n]?.getD []=(fL f)[n]:=by rw [List.getElem?_eq_getElem hnL];rfl
 obtain ⟨b1,b2⟩:=h.src n hnL hn;have hlo:=h.log _ (List.getElem_mem hnL);have hll2:=logOk_len hlo;simp only [Bool.not_true,bfe,if_false,Int.toNat_natCast,es,el];split
 ·split
  ·exact same
  ·have hus:=uns_set w ((fS f)[n].1,(fC f).1) (fL f) (fS f) n hnL hn;simp only at hus;show 0≤uns w (fL f) (fS f)-uns w (fL f) ((fS f).set n ((fS f)[n].1,(fC f).1))∧uns w (fL f) (fS f)-uns w (fL f) ((fS f).set n ((fS f)[n].1,(fC f).1))≤b;omega
 ·split
  ·exact same
  ·rename_i hne;have hne:(fS f)[n].1≠((fL f)[n].length:Int):=by simpa using hne
   have hk:(fS f)[n].1.toNat<(fL f)[n].length:=by omega
   have hwk:w6 ((fS f)[n].1+1)=(fS f)[n].1+1:=w6_id (by omega) (by omega);have hdw:=drop_w w hk;have hus:=uns_set w ((fS f)[n].1+1,(fS f)[n].2) (fL f) (fS f) n hnL hn;have htn:((fS f)[n].1+1).toNat=(fS f)[n].1.toNat+1:=by omega
   simp only [htn] at hus;have h1:=hw (fL f)[n][(fS f)[n].1.toNat];have h2:=hb (fL f)[n][(fS f)[n].1.toNat];have fin:0≤uns w (fL f) (fS f)-uns w (fL f) ((fS f).set n ((fS f)[n].1+1,(fS f)[n].2))∧uns w (fL f) (fS f)-uns w (fL f) ((fS f).set n ((fS f)[n].1+1,(fS f)[n].2))≤b:=by omega
   simp only [hwk]
   repeat' split
   all_goals first|exact same|exact fin
theorem lowI_map (t:TskTask):lowI (tMarks t)=tLow t:=by
 rw [low_map];rfl
theorem snap_ok {w:ItmItem→Int} {j:JobJob} {t:TskTask} {K W:Int} (h:TskG w j t K W):pSnap j (t.2.1,tMarks t)=true:=by
 simp only [pSnap,bae,beq_iff_eq,List.all_eq_true];refine ⟨⟨⟨h.ok.op,by simp only [tMarks,List.length_map];exact h.ok.il⟩,?_⟩,by rw [lowI_map];exact h.ok.low⟩;intro m hm;obtain ⟨c,hc,rfl⟩:=List.mem_map.1 hm;exact inR_iff.2 (h.ok.ins c hc).2.1
theorem FG.tsk_upd0 {w:ItmItem→Int} {K K':Int} (hK:K≤K') {f:FloFlow} (h:FG w K f) (n:Nat) (t:TskTask) (s:FloSink) (ht:TskG w (fJ f) t K' (fC f).1) (hs:SnkP s) (c:CkpState) (hc:CkpP (fJ f) c) (hn:c.1=(fC f).1)
  (hsr:∀ (i:Nat) (h1:i<(fL f).length) (h2:i<c.2.2.1.length),c.2.2.1[i]≤(fL f)[i].length)
  (hf:∀ (i:Nat) (h1:i<(fL f).length) (h2:i<(cSafe c).2.1.length),(cSafe c).2.1[i]≤(fL f)[i].length)
  (hp:∀ (i:Nat) (h1:i<c.2.2.2.1.length) (h2:i<(cSnaps c).length),c.2.2.2.1[i]=true→OpI (fJ f) (cSnaps c)[i].1 K') (hq:∀ s,s∈(cSafe c).2.2→OpI (fJ f) s.1 K) :
  FG w K' (f.1,f.2.1,f.2.2.1,(fT f).set n t,(fK f).set n s,c):=by
 refine ⟨⟨hc,h.ok.ll,h.ok.sl,?_,?_,h.ok.log,?_,hf,?_,?_⟩,?_,?_,?_,hsr⟩
 ·show (((fT f).set n t).length:Int)=_;rw [List.length_set];exact h.ok.tl
 ·show (((fK f).set n s).length:Int)=_;rw [List.length_set];exact h.ok.kl
 ·intro i a b;have:=h.ok.src i a b;exact ⟨this.1,this.2.1,by show (fS f)[i].2≤c.1;rw [hn];exact this.2.2⟩
 ·intro x hx;show pTsk (fJ f) x=true∧x.2.2.1≤c.1;rw [hn];rcases mem_set' hx with hx|rfl
  ·exact h.ok.tsk x hx
  ·exact ⟨(pTsk_iff _ _).2 ht.ok,ht.wl⟩
 ·intro x hx;rcases mem_set' hx with hx|rfl
  ·exact h.ok.snk x hx
  ·exact (pSink_iff _).2 hs
 ·intro x hx;show TskG w (fJ f) x K' c.1;rw [hn];rcases mem_set' hx with hx|rfl
  ·exact (h.tsk x hx).mono hK (Int.le_refl _)
  ·exact ht
 ·intro i a c d;exact hp i a c d
 ·intro x hx;exact (hq x hx).mono hK
theorem FG.tsk_upd {w:ItmItem→Int} (hw:∀ x,0≤w x) {K K':Int} (hK:K≤K') {f:FloFlow} (h:FG w K f) (n:Nat) (t:TskTask) (s:FloSink) (ht:TskG w (fJ f) t K' (fC f).1) (hs:SnkP s) (b:Bool) (hb:b=true→(fC f).2.1=true) :
  FG w K' (f.1,f.2.1,f.2.2.1,(fT f).set n t,(fK f).set n s,(fC f).1,(fC f).2.1,(fC f).2.2.1,(if b then (fC f).2.2.2.1.set n true else (fC f).2.2.2.1),(if b then (cSnaps (fC f)).set n (t.2.1,tMarks t) else cSnaps (fC f)),cSafe (fC f)):=by
 have hc:=h.ok.ckp;cases b
 ·exact h.tsk_upd0 hK n t s ht hs (fC f) hc rfl h.src h.ok.saf (fun i a c d=>(h.snp i a c d).mono hK) h.sfs
 ·refine h.tsk_upd0 hK n t s ht hs ((fC f).1,(fC f).2.1,(fC f).2.2.1,(fC f).2.2.2.1.set n true,(cSnaps (fC f)).set n (t.2.1,tMarks t),cSafe (fC f)) ⟨hc.job,hc.n,hc.sn,hc.opn,hc.srcl,?_,?_,hc.atl,hc.ssl,hc.at_,hc.ss,hc.src,?_⟩ rfl h.src h.ok.saf ?_ h.sfs
  ·show (((fC f).2.2.2.1.set n true).length:Int)=_;rw [List.length_set];exact hc.tskl
  ·show (((cSnaps (fC f)).set n (t.2.1,tMarks t)).length:Int)=_;rw [List.length_set];exact hc.snpl
  ·intro i a c;show pTsnap (fJ f) (fC f).2.1 ((fC f).2.2.2.1.set n true)[i] ((cSnaps (fC f)).set n (t.2.1,tMarks t))[i]=true;have a':i<(fC f).2.2.2.1.length:=by simpa using a
   have c':i<(cSnaps (fC f)).length:=by
    have c2:i<((cSnaps (fC f)).set n (t.2.1,tMarks t)).length:=c;rw [List.length_set] at c2;exact c2
   simp only [List.getElem_set];by_cases hi:n=i
   ·simp only [hi,if_true,pTsnap,bae];exact ⟨hb rfl,snap_ok ht⟩
   ·simp only [hi,if_false];exact hc.snp i a' c'
  ·intro i a c d;have a':i<(fC f).2.2.2.1.length:=by simpa using a
   have c':i<(cSnaps (fC f)).length:=by
    have c2:i<((cSnaps (fC f)).set n (t.2.1,tMarks t)).length:=c;rw [List.length_set] at c2;exact c2
   have d':((fC f).2.2.2.1.set n true)[i]=true:=d;show OpI (fJ f) ((cSnaps (fC f)).set n (t.2.1,tMarks t))[i].1 K';simp only [List.getElem_set] at d' ⊢;by_cases hi:n=i
   ·simp only [hi,if_true];exact ht.op.mono (by have:=qwt_nn hw t;omega)
   ·simp only [hi,if_false] at d' ⊢;exact (h.snp i a' c' d').mono hK
theorem task_ok {w:ItmItem→Int} {d:Int} (hw:Wt w d) {K:Int} {f:FloFlow} (h:FG w K f) (hk:K+d≤1000) (i c:Int):FG w (K+d) (fTask f i c)∧(fTask f i c).1=f.1∧(fTask f i c).2.1=f.2.1:=by
 have hK:K≤K+d:=by have:=hw.d0;omega
 have hm:FG w (K+d) f:=h.mono hK;have htl:((fT f).length:Int)=(fJ f).2.1:=h.ok.tl;have hkl:((fK f).length:Int)=(fJ f).2.1:=h.ok.kl;simp only [fTask];cases hin:inR i 0 (((fT f).length:Int)-1)
 ·exact ⟨hm,rfl,rfl⟩
 obtain ⟨n,rfl,hn⟩:=inR_nat hin;have hnk:n<(fK f).length:=by omega
 have et:(fT f)[n]?.getD tskZ=(fT f)[n]:=by rw [List.getElem?_eq_getElem hn];rfl
 have ek:(fK f)[n]?.getD ([],0,[],[])=(fK f)[n]:=by rw [List.getElem?_eq_getElem hnk];rfl
 simp only [Bool.not_true,Bool.false_or,Int.toNat_natCast,et,ek];cases hfu:fFull f n
 rotate_left
 ·exact ⟨hm,rfl,rfl⟩
 simp only [bfe,if_false];have hti:=h.tsk _ (List.getElem_mem hn);have hst:=step_ok hw hti hk c;have hpe:∀ x,x∈(pTskStep (fJ f) (fT f)[n] c).2.1→x.2=(fT f)[n].2.2.2.2:=fun x hx=>step_pend hx
 have hsk:=(pSink_iff _).1 (h.ok.snk _ (List.getElem_mem hnk));generalize pTskStep (fJ f) (fT f)[n] c=r at *;obtain ⟨hr1,hr2⟩:=hst;cases htx:r.2.1 with
 | nil =>
  refine ⟨?_,rfl,rfl⟩;have:=h.tsk_upd hw.nn hK n r.1 (fK f)[n] hr1 hsk false (by simp);simp only [bfe,if_false] at this;rw [List.set_getElem_self hnk] at this;exact this
 | cons x q =>
  refine ⟨?_,rfl,rfl⟩;have hx:=hr2 x (by rw [htx];exact List.mem_cons_self ..);have hxp:=hpe x (by rw [htx];exact List.mem_cons_self ..);have hju:SnkP (pJoined (fK f)[n] (cSafe (fC f)).1 x,(fK f)[n].2):=by
   refine joined_ok hsk hx.1 ?_;simp only [fFull,et,ek] at hfu;simp only [fullS] at hfu ⊢;rw [hxp];exact hfu
  exact h.tsk_upd hw.nn hK n r.1 _ hr1 hju ((fC f).2.1&&x.1==(fC f).1) (by simp only [bae];exact fun a=>a.1)
theorem FG.ckp_upd {w:ItmItem→Int} {K:Int} {f:FloFlow} (h:FG w K f) (c:CkpState) (hc:CkpP (fJ f) c) (hn:(fC f).1≤c.1) (hs:∀ (i:Nat) (h1:i<(fL f).length) (h2:i<c.2.2.1.length),c.2.2.1[i]≤(fL f)[i].length)
  (hf:∀ (i:Nat) (h1:i<(fL f).length) (h2:i<(cSafe c).2.1.length),(cSafe c).2.1[i]≤(fL f)[i].length)
  (hp:∀ (i:Nat) (h1:i<c.2.2.2.1.length) (h2:i<(cSnaps c).length),c.2.2.2.1[i]=true→OpI (fJ f) (cSnaps c)[i].1 K) (hq:∀ s,s∈(cSafe c).2.2→OpI (fJ f) s.1 K) :
  FG w K (f.1,f.2.1,f.2.2.1,f.2.2.2.1,f.2.2.2.2.1,c):=by
 refine ⟨⟨hc,h.ok.ll,h.ok.sl,h.ok.tl,h.ok.kl,h.ok.log,?_,hf,?_,h.ok.snk⟩,?_,?_,?_,hs⟩
 ·intro i a b;have:=h.ok.src i a b;exact ⟨this.1,this.2.1,by show (fS f)[i].2≤c.1;omega⟩
 ·intro t ht;have:=h.ok.tsk t ht;exact ⟨this.1,by show t.2.2.1≤c.1;omega⟩
 ·intro t ht;exact (h.tsk t ht).mono (Int.le_refl _) hn
 ·intro i a b d;exact hp i a b d
 ·intro s hs;exact hq s hs
theorem rep_get {α:Type} {n:Nat} {x:α} {i:Nat} (h:i<(List.replicate n x).length):(List.replicate n x)[i]=x:=List.getElem_replicate ..
theorem drop_ckp {j:JobJob} {c:CkpState} (hj:jobOk j=true) (hn:c.2.2.2.2.2.1≤c.1∧c.1≤900) (hs:0≤c.2.2.2.2.2.1) (hal:(c.2.2.2.2.2.2.1.length:Int)=j.1) (hsl:(c.2.2.2.2.2.2.2.length:Int)=j.2.1) (hat:∀ n,n∈c.2.2.2.2.2.2.1→0≤n∧n≤40) (hss:∀ s,s∈c.2.2.2.2.2.2.2→pSnap j s=true):CkpP j (cDrop j c):=by
 obtain ⟨h1,h2⟩:=job_S hj;refine ⟨hj,hn,hs,(by intro h;cases h),?_,?_,?_,hal,hsl,hat,hss,?_,?_⟩
 ·simp only [cDrop,List.length_replicate];omega
 ·simp only [cDrop,List.length_replicate];omega
 ·simp only [cDrop,List.length_replicate];omega
 ·intro n hn;have:=List.eq_of_mem_replicate hn;subst this;exact ⟨by omega,.inr rfl⟩
 ·intro i a b;simp only [cDrop] at a b ⊢;rw [rep_get a,rep_get b];rfl
theorem drop_ok {w:ItmItem→Int} {K:Int} {f:FloFlow} (h:FG w K f):FG w K (f.1,f.2.1,f.2.2.1,f.2.2.2.1,f.2.2.2.2.1,cDrop f.1 (fC f)):=by
 have hc:=h.ok.ckp;refine h.ckp_upd _ (drop_ckp hc.job hc.n hc.sn hc.atl hc.ssl hc.at_ hc.ss) (Int.le_refl _) ?_ h.ok.saf ?_ h.sfs
 ·intro i a b;simp only [cDrop] at b ⊢;rw [rep_get b];omega
 ·intro i a b d;simp only [cDrop] at a d;rw [rep_get a] at d;cases d
theorem ask_ok {w:ItmItem→Int} {K:Int} {f:FloFlow} (h:FG w K f):FG w K (f.1,f.2.1,f.2.2.1,f.2.2.2.1,f.2.2.2.2.1,pCkpAsk f.1 (fC f)):=by
 have hc:=h.ok.ckp;have hp:pCkp f.1 (fC f)=true:=(pCkp_iff _ _).2 hc;have hself:FG w K (f.1,f.2.1,f.2.2.1,f.2.2.2.1,f.2.2.2.2.1,fC f):=h;simp only [pCkpAsk,hp,Bool.not_true,bfe,if_false,cAsk];split
 ·rename_i hd;simp only [bae,Bool.not_eq_true',dte] at hd;have hn:=hc.n;have hsn:=hc.sn;have hw:w6 ((fC f).1+1)=(fC f).1+1:=w6_id (by simp only [fC] at *;omega) (by simp only [fC] at *;omega);rw [hw];refine h.ckp_upd _ ⟨hc.job,⟨?_,?_⟩,hc.sn,?_,hc.srcl,hc.tskl,hc.snpl,hc.atl,hc.ssl,hc.at_,hc.ss,?_,?_⟩ ?_ h.src h.ok.saf h.snp h.sfs
  ·simp only [fC] at *;omega
  ·simp only [fC] at *;omega
  ·intro _;simp only [fC] at *;omega
  ·intro n hn;exact ⟨(hc.src n hn).1,.inl rfl⟩
  ·intro i a b;have:=hc.snp i a b;simp only [pTsnap] at this ⊢;split at this
   ·rename_i ht;rw [hd.1] at this;simp at this
   ·rename_i ht;simp only [ht,bfe,if_false];exact this
  ·show (fC f).1≤(fC f).1+1;omega
 ·exact hself
theorem save_ok {w:ItmItem→Int} {K:Int} {f:FloFlow} (h:FG w K f):FG w K (f.1,f.2.1,f.2.2.1,f.2.2.2.1,f.2.2.2.2.1,(pCkpSave f.1 (fC f)).1):=by
 have hc:=h.ok.ckp;have hp:pCkp f.1 (fC f)=true:=(pCkp_iff _ _).2 hc;have hself:FG w K (f.1,f.2.1,f.2.2.1,f.2.2.2.1,f.2.2.2.2.1,fC f):=h;simp only [pCkpSave,hp,Bool.not_true,bfe,if_false];split
 ·exact hself
 ·rename_i hr;have hr:cReady (fC f)=true:=by simpa using hr
  simp only [cReady,bae,List.all_eq_true,Bool.not_eq_true',decide_eq_false_iff_not] at hr;obtain ⟨⟨r1,r2⟩,r3⟩:=hr;have hn:=hc.n;have hsn:=hc.sn;have hS:=job_S hc.job;have hsl:=hc.srcl;have htl:=hc.tskl;have hpl:=hc.snpl;have hss:∀ s,s∈(fC f).2.2.2.2.1→pSnap f.1 s=true∧OpI f.1 s.1 K:=by
   intro s hs;obtain ⟨i,hi,rfl⟩:=List.mem_iff_getElem.1 hs;have hi2:i<(fC f).2.2.2.1.length:=by
    have e1:(((fC f).2.2.2.1.length:Nat):Int)=(fJ f).2.1:=htl;have e2:(((fC f).2.2.2.2.1.length:Nat):Int)=(fJ f).2.1:=hpl;omega
   have ht:=r2 _ (List.getElem_mem hi2);have:=hc.snp i hi2 hi;simp only [pTsnap,ht,if_true,bae] at this;exact ⟨this.2,h.snp i hi2 hi ht⟩
  refine h.ckp_upd _ (drop_ckp hc.job ⟨Int.le_refl _,hn.2⟩ ?_ hc.srcl hc.snpl ?_ fun s hs=>(hss s hs).1) (Int.le_refl _) ?_ h.src ?_ fun s hs=>(hss s hs).2
  ·show 0≤(fC f).1;simp only [fC] at *;omega
  ·intro n hn;have:=r1 n hn;have:=(hc.src n hn).1;omega
  ·intro i a b;simp only [cSaved,cDrop] at b ⊢;rw [rep_get b];omega
  ·intro i a b d;simp only [cSaved,cDrop] at a d;rw [rep_get a] at d;cases d
theorem commit_f {w:ItmItem→Int} {K:Int} {f:FloFlow} (h:FG w K f) (i:Int):FG w K (fCommit f i)∧(fCommit f i).1=f.1∧(fCommit f i).2.1=f.2.1:=by
 have hm:FG w K f:=h;simp only [fCommit];cases hin:inR i 0 (((fK f).length:Int)-1)
 ·exact ⟨hm,rfl,rfl⟩
 obtain ⟨n,rfl,hn⟩:=inR_nat hin;have ek:(fK f)[n]?.getD ([],0,[],[])=(fK f)[n]:=by rw [List.getElem?_eq_getElem hn];rfl
 simp only [Bool.not_true,bfe,if_false,Int.toNat_natCast,ek];have hsk:=(pSink_iff _).1 (h.ok.snk _ (List.getElem_mem hn));have hco:=commit_ok (cSafe (fC f)).1 (fK f)[n].1 (fK f)[n].2 hsk;have key:FG w K (f.1,f.2.1,f.2.2.1,f.2.2.2.1,(fK f).set n (((fK f)[n].1.foldl (cmtG (cSafe (fC f)).1) ((fK f)[n].2,[])).2,((fK f)[n].1.foldl (cmtG (cSafe (fC f)).1) ((fK f)[n].2,[])).1),f.2.2.2.2.2):=by
  refine ⟨⟨h.ok.ckp,h.ok.ll,h.ok.sl,h.ok.tl,?_,h.ok.log,h.ok.src,h.ok.saf,h.ok.tsk,?_⟩,hm.tsk,hm.snp,hm.sfs,hm.src⟩
  ·show (((fK f).set n _).length:Int)=_;rw [List.length_set];exact h.ok.kl
  ·intro s hs;rcases mem_set' hs with hs|rfl
   ·exact h.ok.snk s hs
   ·exact (pSink_iff _).2 hco
 exact ⟨key,by trivial⟩
theorem new_held (l:List Int) (o:OpState×Int×TskTxn):tHeld (l.map (fun m=>(([],m,false):TskIn)),o)=0:=by
 rw [held_map];simp only [List.map_map];induction l with
 | nil=>rfl
 | cons m l ih=>simpa using ih
theorem new_low (l:List Int) (o:OpState×Int×TskTxn):tLow (l.map (fun m=>(([],m,false):TskIn)),o)=lowI l:=by
 rw [low_map];simp only [List.map_map];have:(l.map ((fun c:TskIn=>c.2.1)∘fun m=>(([],m,false):TskIn)))=l:=by
  simp [Function.comp_def]
 rw [this];rfl
theorem new_q (w:ItmItem→Int) (l:List Int) (o:OpState×Int×TskTxn):qwt w (l.map (fun m=>(([],m,false):TskIn)),o)=0:=by
 induction l with
 | nil=>rfl
 | cons m l ih=>simp only [qwt,List.map_cons,List.foldr_cons,wsum,List.foldr_nil] at ih ⊢;omega
theorem new_ok (w:ItmItem→Int) {j:JobJob} {s:CkpSnap} {K W:Int} (hj:jobOk j=true) (h:pSnap j s=true) (ho:OpI j s.1 K) (hW:0≤W∧W≤900):TskG w j ((pTskNew j s.1 s.2).1,(pTskNew j s.1 s.2).2.1,W,(pTskNew j s.1 s.2).2.2.2) K W:=by
 have hS:=(job_S hj).1;simp only [pSnap,bae,beq_iff_eq] at h;obtain ⟨⟨⟨h1,h2⟩,h3⟩,h4⟩:=h;have h2':((s.2.length:Int)==j.1)=true:=by simpa using h2
 have e:pTskNew j s.1 s.2=(s.2.map (fun m=>([],m,false)),s.1,0,0,[],[]):=by
  simp only [pTskNew,h1,h2',h3,Bool.not_true,Bool.or_self,bfe,if_false]
 rw [e];refine ⟨⟨h1,by simp only [List.length_map];exact h2,hW,rfl,⟨by simp,by simp⟩,⟨by simp,by simp⟩,?_,?_,?_⟩,?_,Int.le_refl _,?_⟩
 ·intro c hc;obtain ⟨m,hm,rfl⟩:=List.mem_map.1 hc;have:=inR_iff.1 (List.all_eq_true.1 h3 m hm);have hr:=job_R hj;exact ⟨by simp only [List.length_nil];omega,this,by simp⟩
 ·rw [new_held];simp only [List.length_map];omega
 ·rw [new_low];exact h4
 ·rw [new_q];exact ho.mono (by omega)
 ·intro c hc x hx;obtain ⟨m,hm,rfl⟩:=List.mem_map.1 hc;simp at hx
theorem crash_ok {w:ItmItem→Int} {K:Int} {f:FloFlow} (h:FG w K f):FG w K (fCrash f):=by
 have hd:=drop_ok h;have hc:=h.ok.ckp;have hll:((fL f).length:Int)=(fJ f).1:=h.ok.ll;have htl:((fT f).length:Int)=(fJ f).2.1:=h.ok.tl;have hal:(((cSafe (fC f)).2.1.length:Nat):Int)=(fJ f).1:=hc.atl;have hsl:(((cSafe (fC f)).2.2.length:Nat):Int)=(fJ f).2.1:=hc.ssl;have hn:=hc.n;have hsn:=hc.sn;have hN:0≤(fC f).1∧(fC f).1≤900:=by simp only [fC] at *;omega
 have htk:∀ t,t∈(fT f).mapIdx (crT f)→TskG w (fJ f) t K (fC f).1:=by
  intro t ht;obtain ⟨i,hi,rfl⟩:=List.mem_iff_getElem.1 ht;have hi':i<(fT f).length:=by simpa using hi
  have hi2:i<(cSafe (fC f)).2.2.length:=by omega
  rw [List.getElem_mapIdx];have es:(cSafe (fC f)).2.2[i]?.getD noSnap=(cSafe (fC f)).2.2[i]:=by rw [List.getElem?_eq_getElem hi2];rfl
  simp only [crT,es];exact new_ok w hc.job (hc.ss _ (List.getElem_mem hi2)) (h.sfs _ (List.getElem_mem hi2)) hN
 refine ⟨⟨hd.ok.ckp,h.ok.ll,?_,?_,?_,h.ok.log,?_,h.ok.saf,?_,?_⟩,?_,hd.snp,hd.sfs,hd.src⟩
 ·show (((fS f).mapIdx (crS f)).length:Int)=_;rw [List.length_mapIdx];exact h.ok.sl
 ·show (((fT f).mapIdx (crT f)).length:Int)=_;rw [List.length_mapIdx];exact h.ok.tl
 ·show (((fK f).mapIdx (crK f)).length:Int)=_;rw [List.length_mapIdx];exact h.ok.kl
 ·intro i a b;have hi2:i<(cSafe (fC f)).2.1.length:=by
   have:i<(fL f).length:=a;omega
  have b2:i<((fS f).mapIdx (crS f)).length:=b;show (0≤((fS f).mapIdx (crS f))[i].1∧((fS f).mapIdx (crS f))[i].1≤(fL f)[i].length)∧(0≤((fS f).mapIdx (crS f))[i].2∧((fS f).mapIdx (crS f))[i].2≤(fC f).1)
  rw [List.getElem_mapIdx];have es:(cSafe (fC f)).2.1[i]?.getD 0=(cSafe (fC f)).2.1[i]:=by rw [List.getElem?_eq_getElem hi2];rfl
  simp only [crS,es];exact ⟨⟨(hc.at_ _ (List.getElem_mem hi2)).1,h.ok.saf i a hi2⟩,hN.1,Int.le_refl _⟩
 ·intro t ht;exact ⟨(pTsk_iff _ _).2 (htk t ht).ok,(htk t ht).wl⟩
 ·intro s hs;obtain ⟨i,hi,rfl⟩:=List.mem_iff_getElem.1 hs;have hi2:i<((fK f).mapIdx (crK f)).length:=hi;have hi':i<(fK f).length:=by rw [List.length_mapIdx] at hi2;exact hi2
  show pSink ((fK f).mapIdx (crK f))[i]=true;rw [List.getElem_mapIdx];have hsk:=(pSink_iff _).1 (h.ok.snk _ (List.getElem_mem hi'));refine (pSink_iff _).2 ⟨?_,hsk.n,hsk.pp,hsk.pl,filter_rise _ hsk.rise⟩;exact Nat.le_trans (List.length_filter_le _ _) hsk.len
 ·intro t ht;exact htk t ht
def wt2:ItmItem→Int:=fun _=>2
theorem wt2_w:Wt wt2 2:=⟨fun _=>by simp [wt2],by omega,fun _ _=>by simp [wt2]⟩
abbrev FI (k:Int) (f:FloFlow):Prop:=FG wt2 (2*k) f
theorem FI.mono {k k':Int} {f:FloFlow} (h:FI k f) (hk:k≤k'):FI k' f:=FG.mono h (by omega)
theorem fStep_ok {k:Int} {f:FloFlow} (h:FI k f) (hk:k≤497) (e:EvEvent):FI (k+1) (fStep f e)∧(fStep f e).1=f.1∧(fStep f e).2.1=f.2.1:=by
 have hp:=(pFlo_iff f).2 h.ok;have e2:2*(k+1)=2*k+2:=by omega
 have hle:2*k≤2*(k+1):=by omega
 simp only [fStep,hp,Bool.not_true,bfe,if_false,fDoes];split
 ·have hu:=(uns_src (w:=wt2) (b:=2) wt2_w.nn (fun _=>by simp [wt2]) h.ok e.2.1).2;exact src_ok hle (fun _=>by simp only [wt2];omega) h _ (by omega)
 split
 ·have:=task_ok wt2_w h (by omega) e.2.1 e.2.2;rw [← e2] at this;exact this
 split
 ·exact ⟨FG.mono (ask_ok h) hle,rfl,rfl⟩
 split
 ·exact ⟨FG.mono (save_ok h) hle,rfl,rfl⟩
 split
 ·exact ⟨FG.mono (drop_ok h) hle,rfl,rfl⟩
 split
 ·have:=commit_f h e.2.1;exact ⟨FG.mono this.1 hle,this.2⟩
 split
 ·exact ⟨FG.mono (crash_ok h) hle,rfl,rfl⟩
 ·exact ⟨FG.mono h hle,rfl,rfl⟩
theorem s_l10CopySink_e (s:FloSink) (h:s.1.length≤1000000∧s.2.2.1.length≤1000000∧s.2.2.2.length≤1000000∧∀ x,x∈s.1→x.2.1.length≤1000000∧x.2.2.length≤1000000):s_l10CopySink s=some s:=by
 obtain ⟨h1,h2,h3,h4⟩:=h;simp only [s_l10CopySink,Nat.zero_add,List.nil_append];rw [gd_t (by omega),gd_t (by omega)];rw [fold_i (A:=FloSink×(FloSink×(FloSink×Int))) (B:=FloSink×FloSink) s.1 (fun (o:List TskTxn) c=>o++[c]) (fun i o=>o.length≤i) (fun o i=>(s,([],0,[],[]),(o,s.2),i)) (fun o=>(([],0,[],[]),(o,s.2))) [] (by simp) (fun o=>by simp) (fun o i hi hI=>by
  refine ⟨len_1 hI,?_⟩;have:=h4 _ (List.getElem_mem hi);have g1:(o.length+1)*56≤140737488355328:=by omega
  simp only [lt_d hi,ix_t hi,w6_s hi (show s.1.length<1000000000 by omega),bd_s,cnd_t,s_l8CopyTxn_ve s.1[i] (by omega) (by omega),List.length_singleton,gd_t g1])]
 rw [fold_app];rfl
theorem FloP.snk_sm {f:FloFlow} (h:FloP f):∀ s,s∈fK f→s.1.length≤1000∧s.2.2.1.length≤2000∧s.2.2.2.length≤2000∧∀ x,x∈s.1→x.2.1.length≤2000∧x.2.2.length≤2000:=by
 intro s hs;have hp:=(pSink_iff s).1 (h.snk s hs);have hr:=(rise_iff _ _).1 hp.rise;refine ⟨by have:=hp.len;omega,by have:=hp.pp.1;omega,by have:=hp.pl.1;omega,?_⟩;intro x hx;have:=(pTxn_iff x).1 (hr.1 x hx).1;exact ⟨by have:=this.2.1.1;omega,by have:=this.2.2.1;omega⟩
theorem FloP.log_sm {f:FloFlow} (h:FloP f):∀ l,l∈fL f→l.length≤40:=fun l hl=>(logOk_len (h.log l hl)).2
theorem FloP.lens {f:FloFlow} (h:FloP f):(fL f).length≤3∧(fS f).length=(fL f).length∧(fT f).length≤2∧(fK f).length=(fT f).length∧1≤(fL f).length∧1≤(fT f).length:=by
 have h1:=job_S h.ckp.job;have:=h.ll;have:=h.sl;have:=h.tl;have:=h.kl;refine ⟨?_,?_,?_,?_,?_,?_⟩<;>omega
theorem s_l10Copy_e (f:FloFlow) (h:FloP f):s_l10Copy f=some f:=by
 have hc:=s_l9Copy_e _ h.ckp.sm;have hk:=h.snk_sm;have hl:=h.log_sm;have ht:∀ t,t∈fT f→smT t:=fun t ht=>smT_of (h.tsk t ht).1
 obtain ⟨n1,n2,n3,n4,_,_⟩:=h.lens;obtain ⟨j,lg,sr,tk,sk,ck⟩:=f;simp only [fC,fL,fS,fT,fK] at hc hk hl ht n1 n2 n3 n4;simp only [s_l10Copy,Nat.zero_add,List.nil_append,hc,bd_s];rw [gd_t (by omega)];rw [fold_i (A:=FloFlow×(FloFlow×(FloFlow×Int))) (B:=FloFlow×(FloFlow×FloFlow)) lg (fun (o:List (List ItmItem)) c=>o++[c]) (fun i o=>o.length≤i) (fun o i=>((j,lg,sr,tk,sk,ck),floZ,(j,o,sr,[],[],ck),i)) (fun o=>((j,lg,sr,tk,sk,ck),floZ,(j,o,sr,[],[],ck))) [] (by simp) (fun o=>by simp) (fun o i hi hI=>by
  refine ⟨len_1 hI,?_⟩;have:=hl _ (List.getElem_mem hi);have g1:lg[i].length*40≤140737488355328:=by omega
  have g2:(o.length+1)*24≤140737488355328:=by omega
  simp only [lt_d hi,ix_t hi,w6_s hi (show lg.length<1000000000 by omega),bd_s,cnd_t,gd_t g1,gd_t g2])]
 rw [fold_app];simp only [bd_s,List.nil_append];have e:=for_t (A:=FloFlow×(FloFlow×(FloFlow×Int))) (B:=FloFlow×FloFlow) (f:=fun v5=>(cnd (decide (v5.2.2.2<(v5.1.2.2.2.1.length:Int))) (bd (ix v5.1.2.2.2.1 v5.2.2.2) fun (v6:TskTask)=>(bd (s_l8Copy v6) fun (v7:TskTask)=>(gd ((v5.2.2.1.2.2.2.1.length+1)*120≤140737488355328) (bd (ix v5.1.2.2.2.2.1 v5.2.2.2) fun (v8:FloSink)=>(bd (s_l10CopySink v8) fun (v9:FloSink)=>(gd ((v5.2.2.1.2.2.2.2.1.length+1)*80≤140737488355328) (some (.inl (v5.1,v5.2.1,(v5.2.2.1.1,v5.2.2.1.2.1,v5.2.2.1.2.2.1,(v5.2.2.1.2.2.2.1++[v7]),(v5.2.2.1.2.2.2.2.1++[v9]),v5.2.2.1.2.2.2.2.2),(w6 (v5.2.2.2+(1:Int)))))))))))) (some (.inr (v5.2.1,v5.2.2.1)))))
  (fun i=>((j,lg,sr,tk,sk,ck),floZ,(j,lg,sr,tk.take i.toNat,sk.take i.toNat,ck),i)) tk.length (b:=(floZ,(j,lg,sr,tk,sk,ck))) (by omega) (by
   have e1:tk.take ((tk.length:Int)).toNat=tk:=by rw [Int.toNat_natCast,List.take_length]
   have e2:sk.take ((tk.length:Int)).toNat=sk:=by rw [Int.toNat_natCast,←n4,List.take_length]
   have d:decide ((tk.length:Int)<(tk.length:Int))=false:=by simp
   simp only [d,cnd_f,e1,e2]) (fun i hi=>by
   have hi2:i<sk.length:=by omega
   have e1:(((i:Nat):Int)+1).toNat=i+1:=by omega
   have t1:tk.take (i+1)=tk.take i++[tk[i]]:=by rw [List.take_add_one,List.getElem?_eq_getElem hi];rfl
   have t2:sk.take (i+1)=sk.take i++[sk[i]]:=by rw [List.take_add_one,List.getElem?_eq_getElem hi2];rfl
   have g1:((tk.take i).length+1)*120≤140737488355328:=by simp;omega
   have g2:((sk.take i).length+1)*80≤140737488355328:=by simp;omega
   have hks:=hk _ (List.getElem_mem hi2);have hkc:=s_l10CopySink_e sk[i] ⟨by omega,by omega,by omega,fun x hx=>by have:=hks.2.2.2 x hx;omega⟩;simp only [lt_d hi,ix_t hi,ix_t hi2,w6_s hi (show tk.length<1000000000 by omega),bd_s,cnd_t,s_l8Copy_e _ (ht _ (List.getElem_mem hi)),hkc,Int.toNat_natCast,gd_t g1,gd_t g2,e1,t1,t2])
 simp only [Int.toNat_zero,List.take_zero] at e;rw [e];rfl
theorem FloP.smF {f:FloFlow} (h:FloP f):SmF f:=by
 obtain ⟨n1,n2,n3,n4,_,_⟩:=h.lens;refine ⟨by show (fT f).length≤100;omega,?_,?_,by show (fS f).length≤100;omega⟩
 ·intro t ht;have:=((pTsk_iff _ _).1 (h.tsk t ht).1).il;have h2:=h.sl;show t.1.length=(fS f).length;omega
 ·intro t ht c hc;have:=(pTsk_sm (h.tsk t ht).1).2.2.2.2 c hc;omega
theorem item_sm {j:JobJob} {t:TskTask} (h:TskP j t) (i:Nat) (x:ItmItem) (hx:itmOk x=true):(pItem j t i x).1.2.1.2.length≤1000∧(pItem j t i x).1.1.length=t.1.length:=by
 have hr:=(pOp_iff _ _).1 h.op;simp only [pItem];split
 ·simp only [pWall];split
  ·exact ⟨by have:=hr.2.2.1;show t.2.1.2.length≤1000;omega,rfl⟩
  ·generalize he:(if decide (x.2.2.2.2>tWall t)=true then t.1.map rel1 else t.1).modify i hold1=ins;have hl:ins.length=t.1.length:=by
    rw [← he,List.length_modify];split<;>simp
   split
   ·exact ⟨by have:=hr.2.2.1;simp only [tOp];omega,hl⟩
   ·exact ⟨by have:=hr.2.2.1;simp only [tOp];omega,by simp only [List.length_map];exact hl⟩
 ·split
  ·refine ⟨?_,by simp⟩;simp only [pMark];split
   ·have:=hr.2.2.1;simp only [tOp];omega
   ·have:=hr.2.2.1;refine Nat.le_trans (List.length_filter_le _ _) ?_;simp only [List.length_map,tOp];omega
  ·rename_i k3 k2;have hrec:RecP x:=by
    refine recP_iff.2 ⟨?_,hx⟩;by_cases k1:x.1=1
    ·exact k1
    ·have k1':(x.1==(1:Int))=false:=by simpa using k1
     have k2':(x.1==(2:Int))=false:=by simpa using k2
     have k3':(x.1==(3:Int))=false:=by simpa using k3
     simp only [itmOk,k1',k2',k3',bfe,if_false,Bool.false_and] at hx
   have hl:=(pTake_len (j:=j) (x:=x) (pWins j x.2.1) (t.2.1,[],[]) hr.2.2.2.2.1).1;have h4:=pWins_4 hr.1 hrec.t.1 hrec.t.2;refine ⟨?_,rfl⟩;have:=hr.2.2.1;simp only [pTake,tOp] at hl ⊢;omega
theorem step_sm {j:JobJob} {t:TskTask} (h:pTsk j t=true) (c:Int):(∀ x,x∈(pTskStep j t c).2.1→x.2.1.length<1000000∧x.2.2.length<1000000)∧(pTskStep j t c).1.2.1.2.length<1000000∧(pTskStep j t c).1.1.length<1000000:=by
 have hp:=(pTsk_iff j t).1 h;have hr:=(pOp_iff _ _).1 hp.op;have hsm:=pTsk_sm h;refine ⟨fun x hx => ?_,?_⟩
 ·have:=step_pend hx;rw [this];exact ⟨by have:=hsm.2.1;omega,by have:=hsm.2.2.1;omega⟩
 ·simp only [pTskStep,h,Bool.not_true,bfe,if_false];split
  ·exact ⟨by have:=hsm.1;show t.2.1.2.length<1000000;omega,by have:=hsm.2.2.2.1;show t.1.length<1000000;omega⟩
  ·rename_i hmay;have hmay:tMay t c=true:=by simpa using hmay
   obtain ⟨n,rfl,hn,h1,h2,h3,h4,h5⟩:=tMay_iff hmay;simp only [Int.toNat_natCast];have hhd:headOf t n∈t.1[n].1:=by
    simp only [headOf,List.getElem?_eq_getElem hn];cases e:t.1[n].1 with
    | nil=>rw [e] at h2;simp at h2
    | cons x q=>exact List.mem_cons_self ..
   have:=item_sm (pop_ok hp n) n (headOf t n) ((hp.ins _ (List.getElem_mem hn)).2.2 _ hhd);have hl:(pPop t n).1.length=t.1.length:=by simp [pPop]
   exact ⟨by omega,by have:=hsm.2.2.2.1;omega⟩
theorem s_l10Does_e (f:FloFlow) (e:EvEvent) (h:FloP f):s_l10Does (f,e)=some (fDoes f e):=by
 obtain ⟨n1,n2,n3,n4,_,_⟩:=h.lens;have hj:=h.ckp.job;have hS:=job_S hj;have hcm:=h.ckp.sm;have hsm:=h.smF;have hks:=h.snk_sm;have hcl:(((fC f).2.2.1.length:Nat):Int)=(fJ f).1:=h.ckp.srcl;have htl:(((fC f).2.2.2.1.length:Nat):Int)=(fJ f).2.1:=h.ckp.tskl;have hpl:(((cSnaps (fC f)).length:Nat):Int)=(fJ f).2.1:=h.ckp.snpl;have hal:(((cSafe (fC f)).2.1.length:Nat):Int)=(fJ f).1:=h.ckp.atl;have hzl:(((cSafe (fC f)).2.2.length:Nat):Int)=(fJ f).2.1:=h.ckp.ssl;have hfl:=h.ll;have hft:=h.tl;have e1:s_l10Src (f,e.2.1)=some (fSrc f e.2.1):=s_l10Src_e f _ hsm (by show (fL f).length=(fS f).length;omega) (by show (fC f).2.2.1.length=(fS f).length;omega) (by show (fJ f).2.1≠0;omega) (fun n a b=>by
  have:=h.src n b a;have h2:=h.log_sm _ (List.getElem_mem b);exact ⟨this.1.1,this.1.2,by omega⟩)
 have e2:s_l10Task (f,e.2)=some (fTask f e.2.1 e.2.2):=s_l10Task_e f _ _ hsm n4 (by omega) (by omega) (fun s hs=>by
   have:=hks s hs;exact ⟨by omega,fun x hx=>by have:=this.2.2.2 x hx;omega⟩) (fun t ht=>by
   have:=pTsk_sm (h.tsk t ht).1;omega) (fun t ht=>(step_sm (h.tsk t ht).1 _).1) (fun t ht=>(step_sm (h.tsk t ht).1 _).2)
 have e3:=s_CkpAsk_e f.1 (fC f) hcm;have e4:=s_CkpSave_e f.1 (fC f) hcm;have e5:=s_l9Drop_e f.1 (fC f) hj;have e6:s_l10Commit (f,e.2.1)=some (fCommit f e.2.1):=s_l10Commit_e f _ (by omega) (fun s hs=>by
   have:=hks s hs;exact ⟨by omega,by omega,by omega,fun x hx=>by have:=this.2.2.2 x hx;omega⟩)
 have e7:=s_l10Crash_e f hj (by omega) (by omega) (by omega) (by omega) n4 (fun s hs=>by have:=hks s hs;omega);simp only [s_l10Does,fDoes,e1,e2,e3,e4,e5,e6,e7,bd_s];rcases Bool.eq_false_or_eq_true (e.1==(1:Int)) with b|b
 ·simp only [b,cnd_t,bd_s,cs_l,if_true]
 simp only [b,cnd_f,bfe,if_false];rcases Bool.eq_false_or_eq_true (e.1==(2:Int)) with b|b
 ·simp only [b,cnd_t,bd_s,cs_l,if_true]
 simp only [b,cnd_f,bfe,if_false];rcases Bool.eq_false_or_eq_true (e.1==(3:Int)) with b|b
 ·simp only [b,cnd_t,bd_s,cs_r,if_true]
 simp only [b,cnd_f,bfe,if_false];rcases Bool.eq_false_or_eq_true (e.1==(4:Int)) with b|b
 ·simp only [b,cnd_t,bd_s,cs_r,if_true]
 simp only [b,cnd_f,bfe,if_false];rcases Bool.eq_false_or_eq_true (e.1==(5:Int)) with b|b
 ·simp only [b,cnd_t,bd_s,cs_r,if_true]
 simp only [b,cnd_f,bfe,if_false];rcases Bool.eq_false_or_eq_true (e.1==(6:Int)) with b|b
 ·simp only [b,cnd_t,bd_s,cs_l,if_true]
 simp only [b,cnd_f,bfe,if_false];rcases Bool.eq_false_or_eq_true (e.1==(7:Int)) with b|b
 ·simp only [b,cnd_t,bd_s,cs_l,if_true]
 simp only [b,cnd_f,bfe,if_false,bd_s,cs_r]
theorem s_FloStep_ve (f:FloFlow) (e:EvEvent) (hb:snSm (cSnaps (fC f))):s_FloStep_v (f,e)=some (fStep f e):=by
 simp only [s_FloStep_v,s_FloOk_e f hb,bd_s,fStep];cases hp:pFlo f
 ·rfl
 ·have h:=(pFlo_iff f).1 hp;simp only [Bool.not_true,cnd_f,s_l10Copy_e f h,bd_s,s_l10Does_e f e h,bfe,if_false]
end Go.Proofs.YteecakkojdhmaaaGreatA.AS
