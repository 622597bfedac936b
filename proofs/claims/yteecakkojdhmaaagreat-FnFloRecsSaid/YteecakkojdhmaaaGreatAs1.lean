/- A part of the proof that FnFloRecs holds: an abstract machine, typed evaluation, and that both are sound. -/
import Derived.Laws.CopyRow
import Derived.Laws.IdiomCopy
import Derived.Laws.MakeOwn
import Derived.Laws.Sem
import Derived.Laws.Shifts
import Derived.Laws.StructEq
import Derived.Maps.AppendAt
import Derived.Orders
set_option linter.unusedVariables false
set_option linter.unusedSimpArgs false
namespace Go.Proofs.YteecakkojdhmaaaGreatA.AS
theorem osi {α:Type _} (a b:α):(some a=some b)=(a=b):=Option.some.injEq a b
theorem nbe {n m:Nat} (h:Nat.beq n m=true):n=m:=Nat.eq_of_beq_eq_true h
theorem lma {α:Type _} {a:α} {s t:List α}:a∈s++t↔a∈s∨a∈t:=List.mem_append
theorem bfe:(false=true)=False:=Bool.false_eq_true
theorem dte {p:Prop} [Decidable p]:(decide p=true)=p:=decide_eq_true_eq
theorem bae (a b:Bool):((a&&b)=true)=(a=true∧b=true):=Bool.and_eq_true a b
inductive PV where
 | i (k:IntKind) (n:Int)
 | b (x:Bool)
 | s (x:ByteArray)
 | vs (o:Bool) (k:Nat) (l:List (List PV))
 | ref (id lo len full:Nat)
 | ptr (id full e j:Nat)
 | rp (l:List PV) (j:Nat)
 | fn (f:FuncId) (l:List PV)
 | np
 | tok (n:Nat)
 | un
 deriving Inhabited
def PV.sh:PV→PV
 | .vs _ k l=>.vs false k l
 | p=>p
inductive R1 where
 | one (p:PV)
 | agg (l:List PV)
 deriving Inhabited
inductive RV where
 | r (x:R1)
 | tup (l:List R1)
 | un
 deriving Inhabited
structure Blk where
 kd:Nat
 k:Nat
 kids:List (Nat×Nat)
 l:List (List PV)
 deriving Inhabited
inductive Slot where
 | fresh
 | dead
 | live (b:Blk)
 deriving Inhabited
structure Ctx where
 H:Nat→Slot
 A:Nat→Option (Nat×Nat)
 C:Nat→Nat
 τ:Nat→Value
 N:Nat→Prop
def baseOf (x:Nat×Nat):Addr:=⟨x.1,x.2,none⟩
def RefOk (X:Ctx) (id k lo len:Nat) (v:Value):Prop :=
 ∃ A c,v=.slice A len c∧len≤c∧(lo=0→A=(X.A id).map baseOf∧c=X.C id)∧(0<len→A=(X.A id).map fun x=>(baseOf x).add (lo*k))
inductive RC (w:World) (M:Nat→Prop) (X:Ctx):PV→Value→List Nat→Prop
 | i {k:IntKind} {n:Int}:RC w M X (.i k n) (.int k n) []
 | b {x:Bool}:RC w M X (.b x) (.bool x) []
 | s {x:ByteArray}:RC w M X (.s x) (.string x) []
 | own {k:Nat} {l:List (List PV)} {v:Value} {xs:List Value} {fps:List (List Nat)} (e:TypeId)
   (hr:w.ownsRow 0 e k v l.length xs) (hk:∀ c∈l,c.length=k) (hl:l.flatten.length=xs.length) (hf:fps.length=xs.length)
   (hc:∀ (j:Nat) (p:PV) (u:Value) (f:List Nat),l.flatten[j]? = some p→xs[j]? = some u→fps[j]? = some f→RC w M X p u f) :
   RC w M X (.vs true k l) v (v.ownBlock.toList++fps.flatten)
 | ro {k:Nat} {l:List (List PV)} {A:Option Addr} {c:Nat} {xs:List Value}
   (hn:l.length≤c) (hk:∀ c∈l,c.length=k) (hl:l.flatten.length=xs.length)
   (hx:∀ (j:Nat) (u:Value),xs[j]? = some u→∃ ad,A=some ad∧¬ M ad.block∧w.cell? (ad.add j)=some u)
   (hc:∀ (j:Nat) (p:PV) (u:Value),l.flatten[j]? = some p→xs[j]? = some u→RC w M X p.sh u []) :
   RC w M X (.vs false k l) (.slice A l.length c) []
 | ref {id lo len full:Nat} {v:Value} (h0:X.H id≠.fresh)
   (h:∀ B,X.H id=.live B→full≤B.l.length∧(B.l.length=full→B.kd=0∧lo+len≤full∧RefOk X id B.k lo len v))
   (hs:∃ a c,v=.slice a len c):RC w M X (.ref id lo len full) v []
 | ptr {id full e j:Nat} {v:Value} (h0:X.H id≠.fresh)
   (h:∀ B,X.H id=.live B→full≤B.l.length∧(B.l.length=full→e<full∧∃ x,X.A id=some x∧v=.pointer (some ((baseOf x).add (e*B.k+j)))))
   (hs:∃ a,v=.pointer (some a)):RC w M X (.ptr id full e j) v []
 | rp {l:List PV} {j:Nat} {ad:Addr} {xs:List Value} (hl:l.length=xs.length)
   (hx:∀ (i:Nat) (u:Value),xs[i]? = some u→¬ M ad.block∧w.cell? (ad.add i)=some u)
   (hc:∀ (i:Nat) (p:PV) (u:Value),l[i]? = some p→xs[i]? = some u→RC w M X p.sh u []) :
   RC w M X (.rp l j) (.pointer (some (ad.add j))) []
 | fn {f:FuncId} {l:List PV} {xs:List Value} (hl:l.length=xs.length)
   (hc:∀ (i:Nat) (p:PV) (u:Value),l[i]? = some p→xs[i]? = some u→RC w M X p u []) :
   RC w M X (.fn f l) (.func (.func f) #[] xs.toArray) []
 | np:RC w M X .np (.pointer none) []
 | tok {n:Nat} (h:(X.τ n).oneCell'=true):RC w M X (.tok n) (X.τ n) []
 | un {v:Value} (h:v.oneCell'=true):RC w M X .un v []
theorem RC.oneCell {w:World} {M:Nat→Prop} {X:Ctx} {p:PV} {v:Value} {fp:List Nat} (h:RC w M X p v fp):v.oneCell'=true:=by
 cases h with
 | own e hr hk hl hf hc=>rcases hr.2 with ⟨rfl,_⟩|⟨g,cap,cur,rfl,_⟩<;>rfl
 | ref h0 h hs=>obtain ⟨a,c,rfl⟩:=hs;rfl
 | ptr h0 h hs=>obtain ⟨a,rfl⟩:=hs;rfl
 | tok h=>exact h
 | un h=>exact h
 | _=>rfl
structure Ctx.Le (X X':Ctx):Prop where
 fresh:∀ id,X'.H id=.fresh→X.H id=.fresh
 live:∀ id B',X'.H id=.live B'→X.H id=.fresh∨∃ B,X.H id=.live B ∧
  (B.l.length<B'.l.length∨(B.l.length=B'.l.length∧B.k=B'.k∧B.kd=B'.kd∧X'.A id=X.A id∧X'.C id=X.C id))
 tok:X'.τ=X.τ
theorem Ctx.Le.refl (X:Ctx):X.Le X:=⟨fun _ h=>h,fun id B h=>.inr ⟨B,h,.inr ⟨rfl,rfl,rfl,rfl,rfl⟩⟩,rfl⟩
theorem Ctx.Le.trans {X Y Z:Ctx} (h:X.Le Y) (k:Y.Le Z):X.Le Z:=by
 refine ⟨fun id e=>h.fresh id (k.fresh id e),fun id B e => ?_,k.tok.trans h.tok⟩;rcases k.live id B e with e1|⟨B1,e1,h1⟩
 ·exact .inl (h.fresh id e1)
 ·rcases h.live id B1 e1 with e2|⟨B2,e2,h2⟩
  ·exact .inl e2
  ·refine .inr ⟨B2,e2,?_⟩;rcases h1 with h1|⟨a1,a2,a3,a4,a5⟩<;>rcases h2 with h2|⟨b1,b2,b3,b4,b5⟩
   ·left;omega
   ·left;omega
   ·left;omega
   ·exact .inr ⟨b1.trans a1,b2.trans a2,b3.trans a3,a4.trans b4,a5.trans b5⟩
theorem ownsRow_kept {w w':World} {e:TypeId} {k:Nat} {v:Value} {n:Nat} {xs:List Value} (h:w.ownsRow 0 e k v n xs)
  (hb:∀ g,v.ownBlock=some g→w'.heap[g]? = w.heap[g]?):w'.ownsRow 0 e k v n xs:=by
 refine ⟨h.1,?_⟩;rcases h.2 with hn|⟨g,cap,cur,rfl,hg0,hg,rest⟩
 ·exact .inl hn
 ·exact .inr ⟨g,cap,cur,rfl,hg0,(hb g rfl).trans hg,rest⟩
theorem RC.frame {w w':World} {M M':Nat→Prop} {X X':Ctx} {p:PV} {v:Value} {fp:List Nat} (h:RC w M X p v fp)
  (hown:∀ g∈fp,w'.heap[g]? = w.heap[g]?) (hro:∀ g,g<w.heap.size→¬ M g→w'.heap[g]? = w.heap[g]?)
  (hM:∀ g,g<w.heap.size→¬ M g→¬ M' g) (hX:X.Le X'):RC w' M' X' p v fp:=by
 induction h with
 | i=>exact .i
 | b=>exact .b
 | s=>exact .s
 | own e hr hk hl hf hc ih =>
  refine .own e (ownsRow_kept hr fun g hg=>hown g (by simp [hg])) hk hl hf fun j p u f hp hu hff=>ih j p u f hp hu hff fun g hg=>hown g ?_
  simp only [lma,List.mem_flatten];exact .inr ⟨f,List.mem_of_getElem? hff,hg⟩
 | ro hn hk hl hx hc ih =>
  refine .ro hn hk hl (fun j u hu => ?_) fun j p u hp hu=>ih j p u hp hu (by simp)
  obtain ⟨ad,rfl,hm,hcell⟩:=hx j u hu;have hb:(ad.add j).block=ad.block:=by unfold Addr.add;split<;>rfl
  have hlt:=World.block_lt_of_cell? w _ hcell;rw [hb] at hlt;exact ⟨ad,rfl,hM _ hlt hm,(World.cell?_of_block (by rw [hb];exact hro _ hlt hm)).trans hcell⟩
 | @ref id lo len full v h0 h hs =>
  refine .ref (fun e=>h0 (hX.fresh _ e)) (fun B' hB' => ?_) hs;rcases hX.live _ _ hB' with e|⟨B,hB,hl⟩
  ·exact (h0 e).elim
  ·obtain ⟨h1,h2⟩:=h B hB;rcases hl with hl|⟨a1,a2,a3,a4,a5⟩
   ·exact ⟨by omega,fun e=>by omega⟩
   ·refine ⟨by omega,fun e => ?_⟩;obtain ⟨b1,b2,b3⟩:=h2 (a1.trans e);exact ⟨by omega,b2,by unfold RefOk;rw [a4,a5,←a2];exact b3⟩
 | @ptr id full e j v h0 h hs =>
  refine .ptr (fun e=>h0 (hX.fresh _ e)) (fun B' hB' => ?_) hs;rcases hX.live _ _ hB' with e|⟨B,hB,hl⟩
  ·exact (h0 e).elim
  ·obtain ⟨h1,h2⟩:=h B hB;rcases hl with hl|⟨a1,a2,a3,a4,a5⟩
   ·exact ⟨by omega,fun e=>by omega⟩
   ·refine ⟨by omega,fun e => ?_⟩;obtain ⟨b1,x,b2,b3⟩:=h2 (a1.trans e);exact ⟨b1,x,a4.trans b2,by rw [b3,a2]⟩
 | @rp l j ad xs hl hx hc ih =>
  refine .rp hl (fun i u hu => ?_) fun i p u hp hu=>ih i p u hp hu (by simp)
  obtain ⟨hm,hcell⟩:=hx i u hu;have hb:(ad.add i).block=ad.block:=by unfold Addr.add;split<;>rfl
  have hlt:=World.block_lt_of_cell? w _ hcell;rw [hb] at hlt;exact ⟨hM _ hlt hm,(World.cell?_of_block (by rw [hb];exact hro _ hlt hm)).trans hcell⟩
 | fn hl hc ih=>exact .fn hl fun i p u hp hu=>ih i p u hp hu (by simp)
 | np=>exact .np
 | tok h=>rw [← hX.tok] at h ⊢;exact .tok h
 | un h=>exact .un h
theorem RC.lt {w:World} {M:Nat→Prop} {X:Ctx} {p:PV} {v:Value} {fp:List Nat} (h:RC w M X p v fp):∀ g∈fp,g<w.heap.size:=by
 induction h with
 | own e hr hk hl hf hc ih =>
  intro g hg;simp only [lma,List.mem_flatten,Option.mem_toList] at hg;rcases hg with hg|⟨f,hff,hg⟩
  ·exact (hr.lt g hg).2
  ·obtain ⟨j,hj⟩:=List.getElem?_of_mem hff;have hj':j<_:=(List.getElem?_eq_some_iff.1 hj).1;exact ih j _ _ f (List.getElem?_eq_getElem (by omega)) (List.getElem?_eq_getElem (by omega)) hj g hg
 | _=>intro g hg;simp at hg
theorem flatten_get {α:Type} {k:Nat}:∀ (l:List (List α)),(∀ c∈l,c.length=k)→∀ (e j:Nat),j<k→l.flatten[e*k+j]? = (l[e]?).bind fun c=>c[j]?
 | [],_,e,j,_=>by simp
 | c::l,h,0,j,hj=>by
  have hc:c.length=k:=h c (by simp);simp [List.getElem?_append_left (show j<c.length by omega)]
 | c::l,h,e+1,j,hj=>by
  have hc:c.length=k:=h c (by simp);have:=flatten_get l (fun c' h'=>h c' (by simp [h'])) e j hj;simp only [List.flatten_cons,List.getElem?_cons_succ];rw [List.getElem?_append_right (by rw [hc,Nat.add_mul];omega),hc,←this];congr 1;rw [Nat.add_mul];omega
theorem flatten_len {α:Type} {k:Nat}:∀ (l:List (List α)),(∀ c∈l,c.length=k)→l.flatten.length=l.length*k
 | [],_=>by simp
 | c::l,h=>by
  have hc:c.length=k:=h c (by simp);simp [flatten_len l (fun c' h'=>h c' (by simp [h'])),hc,Nat.add_mul];omega
theorem flatten_set {α:Type} {k:Nat}:∀ (l:List (List α)),(∀ c∈l,c.length=k)→∀ (e j:Nat) (c:List α) (p:α),l[e]? = some c→j<k →
  (l.set e (c.set j p)).flatten=l.flatten.set (e*k+j) p
 | [],_,e,j,c,p,he,_=>by simp at he
 | c0::l,h,0,j,c,p,he,hj=>by
  have hc:c0.length=k:=h c0 (by simp);simp at he;subst he;simp [List.set_append_left _ _ (show j<c0.length by omega)]
 | c0::l,h,e+1,j,c,p,he,hj=>by
  have hc:c0.length=k:=h c0 (by simp);have:=flatten_set l (fun c' h'=>h c' (by simp [h'])) e j c p (by simpa using he) hj;simp only [List.set_cons_succ,List.flatten_cons];rw [this,List.set_append_right _ _ (by rw [hc,Nat.add_mul];omega),hc];congr 2;rw [Nat.add_mul];omega
def splice {α:Type} (l:List α) (pos:Nat) (ys:List α):List α:=l.take pos++ys++l.drop (pos+ys.length)
theorem splice_len {α:Type} {l:List α} {pos:Nat} {ys:List α} (h:pos+ys.length≤l.length):(splice l pos ys).length=l.length:=by
 simp [splice];omega
theorem splice_get {α:Type} {l:List α} {pos:Nat} {ys:List α} (h:pos+ys.length≤l.length) (j:Nat) :
  (splice l pos ys)[j]? = if pos≤j∧j<pos+ys.length then ys[j-pos]? else l[j]? := by
 unfold splice;by_cases h1:j<pos
 ·rw [if_neg (by omega),List.append_assoc,List.getElem?_append_left (by simp;omega),List.getElem?_take];simp [h1]
 ·rw [List.append_assoc,List.getElem?_append_right (by simp;omega)];have:(l.take pos).length=pos:=by simp;omega
  rw [this];by_cases h2:j<pos+ys.length
  ·rw [if_pos (by omega),List.getElem?_append_left (by omega)]
  ·rw [if_neg (by omega),List.getElem?_append_right (by omega),List.getElem?_drop];congr 1;omega
theorem flatten_splice {α:Type} {k:Nat}:∀ (l:List (List α)),(∀ c∈l,c.length=k)→∀ (e j:Nat) (c ys:List α),l[e]? = some c→j+ys.length≤k →
  (l.set e (splice c j ys)).flatten=splice l.flatten (e*k+j) ys:=by
 intro l h e j c ys he hj;have hck:c.length=k:=h c (List.mem_of_getElem? he);have hel:e<l.length:=(List.getElem?_eq_some_iff.1 he).1;have hle:e*k+k≤l.length*k:=by rw [← Nat.succ_mul];exact Nat.mul_le_mul_right _ hel
 have hfl:=flatten_len l h;have hset:∀ c'∈l.set e (splice c j ys),c'.length=k:=by
  intro c' hc';rcases List.mem_or_eq_of_mem_set hc' with h1|rfl
  ·exact h _ h1
  ·rw [splice_len (by omega)];exact hck
 apply List.ext_getElem?;intro i;rw [splice_get (by rw [hfl];omega)];rcases Nat.eq_zero_or_pos k with hk0|hk
 ·subst hk0;have:ys=[]:=List.eq_nil_of_length_eq_zero (by omega);subst this;rw [if_neg (by simp only [List.length_nil];omega),List.getElem?_eq_none (by rw [flatten_len _ hset];simp),List.getElem?_eq_none (by rw [hfl];simp)]
 ·have hi:i/k*k+i % k=i:=by have:=Nat.div_add_mod i k;rw [Nat.mul_comm] at this;exact this
  have hm:i % k<k:=Nat.mod_lt _ hk;rw [← hi,flatten_get _ hset _ _ hm,flatten_get _ h _ _ hm,List.getElem?_set];by_cases hie:e=i/k
  ·subst hie;rw [if_pos rfl,if_pos hel,he];simp only [Option.bind_some];rw [splice_get (by omega)];by_cases hr:j≤i % k∧i % k<j+ys.length
   ·rw [if_pos hr,if_pos (by omega)];congr 1;omega
   ·rw [if_neg hr,if_neg (by omega)]
  ·rw [if_neg hie,if_neg];intro ⟨h1,h2⟩;rcases Nat.lt_or_gt_of_ne hie with hlt|hgt
   ·have:(e+1)*k≤i/k*k:=Nat.mul_le_mul_right _ hlt;rw [Nat.add_mul] at this;omega
   ·have:(i/k+1)*k≤e*k:=Nat.mul_le_mul_right _ hgt;rw [Nat.add_mul] at this;omega
theorem flatten_seg {α:Type} {k:Nat} (l:List (List α)) (h:∀ c∈l,c.length=k) (e j n:Nat) (c:List α) (he:l[e]? = some c) (hj:j+n≤k) :
  (l.flatten.drop (e*k+j)).take n=(c.drop j).take n:=by
 have hck:c.length=k:=h c (List.mem_of_getElem? he);apply List.ext_getElem?;intro i;simp only [List.getElem?_take,List.getElem?_drop];split
 ·rename_i hi;rw [Nat.add_assoc,flatten_get l h e (j+i) (by omega),he];rfl
 ·rfl
def RCs (w:World) (M:Nat→Prop) (X:Ctx) (ps:List PV) (xs:List Value) (fp:List Nat):Prop :=
 ps.length=xs.length∧∃ fps:List (List Nat),fps.length=xs.length∧fp=fps.flatten ∧
  ∀ (j:Nat) (p:PV) (u:Value) (f:List Nat),ps[j]? = some p→xs[j]? = some u→fps[j]? = some f→RC w M X p u f
section
variable {w w':World} {M M':Nat→Prop} {X X':Ctx} {ps qs:List PV} {xs ys:List Value} {fp gp:List Nat}
theorem RCs.nil:RCs w M X [] [] []:=⟨rfl,[],rfl,rfl,by simp⟩
theorem RCs.cons {p:PV} {u:Value} {f:List Nat} (h:RC w M X p u f) (hs:RCs w M X ps xs fp):RCs w M X (p::ps) (u::xs) (f++fp):=by
 obtain ⟨hl,fps,hf,rfl,hc⟩:=hs;refine ⟨by simp [hl],f::fps,by simp [hf],rfl,fun j q v g hq hv hg => ?_⟩;cases j with
 | zero=>simp at hq hv hg;subst hq hv hg;exact h
 | succ j=>exact hc j q v g (by simpa using hq) (by simpa using hv) (by simpa using hg)
theorem RCs.append (h:RCs w M X ps xs fp) (k:RCs w M X qs ys gp):RCs w M X (ps++qs) (xs++ys) (fp++gp):=by
 obtain ⟨hl,fps,hf,rfl,hc⟩:=h;obtain ⟨kl,gps,kf,rfl,kc⟩:=k;refine ⟨by simp [hl,kl],fps++gps,by simp [hf,kf],by simp,fun j q v g hq hv hg => ?_⟩;by_cases hj:j<ps.length
 ·rw [List.getElem?_append_left hj] at hq;rw [List.getElem?_append_left (by omega)] at hv hg;exact hc j q v g hq hv hg
 ·rw [List.getElem?_append_right (by omega)] at hq hv hg;rw [hl] at hq;rw [hf] at hg;exact kc _ q v g hq hv hg
theorem RCs.frame (h:RCs w M X ps xs fp) (hown:∀ g∈fp,w'.heap[g]? = w.heap[g]?) (hro:∀ g,g<w.heap.size→¬ M g→w'.heap[g]? = w.heap[g]?)
  (hM:∀ g,g<w.heap.size→¬ M g→¬ M' g) (hX:X.Le X'):RCs w' M' X' ps xs fp:=by
 obtain ⟨hl,fps,hf,rfl,hc⟩:=h;exact ⟨hl,fps,hf,rfl,fun j p u f hp hu hff=>(hc j p u f hp hu hff).frame (fun g hg=>hown g (List.mem_flatten.2 ⟨f,List.mem_of_getElem? hff,hg⟩)) hro hM hX⟩
theorem RCs.lt (h:RCs w M X ps xs fp):∀ g∈fp,g<w.heap.size:=by
 obtain ⟨hl,fps,hf,rfl,hc⟩:=h;intro g hg;obtain ⟨f,hff,hg⟩:=List.mem_flatten.1 hg;obtain ⟨j,hj⟩:=List.getElem?_of_mem hff;have hj':j<_:=(List.getElem?_eq_some_iff.1 hj).1;exact (hc j _ _ f (List.getElem?_eq_getElem (by omega)) (List.getElem?_eq_getElem (by omega)) hj).lt g hg
theorem RCs.oneCell (h:RCs w M X ps xs fp):∀ u∈xs,u.oneCell'=true:=by
 obtain ⟨hl,fps,hf,rfl,hc⟩:=h;intro u hu;obtain ⟨j,hj⟩:=List.getElem?_of_mem hu;have hj':j<_:=(List.getElem?_eq_some_iff.1 hj).1;exact (hc j _ _ _ (List.getElem?_eq_getElem (by omega)) hj (List.getElem?_eq_getElem (by omega))).oneCell
theorem RCs.of_nofp (hl:ps.length=xs.length) (h:∀ (j:Nat) (p:PV) (u:Value),ps[j]? = some p→xs[j]? = some u→RC w M X p u []):RCs w M X ps xs []:=by
 refine ⟨hl,List.replicate xs.length [],by simp,by simp,fun j p u f hp hu hf => ?_⟩;have:=List.eq_of_mem_replicate (List.mem_of_getElem? hf);subst this;exact h j p u hp hu
theorem RCs.get_nofp (h:RCs w M X ps xs []) (j:Nat) (p:PV) (u:Value) (hp:ps[j]? = some p) (hu:xs[j]? = some u):RC w M X p u []:=by
 obtain ⟨hl,fps,hf,he,hc⟩:=h;have hj:j<xs.length:=(List.getElem?_eq_some_iff.1 hu).1;have hff:=List.getElem?_eq_getElem (show j<fps.length by omega);have h0:fps[j]'(by omega)=[]:=List.eq_nil_iff_forall_not_mem.2 fun g hg=>by
  have:g∈fps.flatten:=List.mem_flatten.2 ⟨_,List.getElem_mem _,hg⟩;rw [← he] at this;simp at this
 rw [h0] at hff;exact hc j p u [] hp hu hff
theorem RCs.parts (h:RCs w M X ps xs fp) (n m:Nat):∃ f1 f2 f3,fp=f1++f2++f3∧RCs w M X (ps.take n) (xs.take n) f1∧RCs w M X ((ps.drop n).take m) ((xs.drop n).take m) f2∧RCs w M X (ps.drop (n+m)) (xs.drop (n+m)) f3:=by
 obtain ⟨hl,fps,hf,rfl,hc⟩:=h;refine ⟨(fps.take n).flatten,((fps.drop n).take m).flatten,(fps.drop (n+m)).flatten,?_,?_,?_,?_⟩
 ·rw [← List.flatten_append,←List.flatten_append,List.append_assoc];congr 1;rw [show fps.drop (n+m)=(fps.drop n).drop m by rw [List.drop_drop],List.take_append_drop,List.take_append_drop]
 ·refine ⟨by simp [hl],fps.take n,by simp [hf],rfl,fun j p u f hp hu hff => ?_⟩;simp only [List.getElem?_take] at hp hu hff;split at hp
  ·rename_i hj;simp only [hj,if_true] at hu hff;exact hc j p u f hp hu hff
  ·simp at hp
 ·refine ⟨by simp [hl],(fps.drop n).take m,by simp [hf],rfl,fun j p u f hp hu hff => ?_⟩;simp only [List.getElem?_take,List.getElem?_drop] at hp hu hff;split at hp
  ·rename_i hj;simp only [hj,if_true] at hu hff;exact hc _ p u f hp hu hff
  ·simp at hp
 ·refine ⟨by simp [hl],fps.drop (n+m),by simp [hf],rfl,fun j p u f hp hu hff => ?_⟩;simp only [List.getElem?_drop] at hp hu hff;exact hc _ p u f hp hu hff
end
def CellsAt (w:World) (x:Nat×Nat) (xs:List Value):Prop :=
 ∀ (j:Nat) (u:Value),xs[j]? = some u→w.cell? ((baseOf x).add j)=some u∧w.frozen? ((baseOf x).add j)=false
theorem add_baseOf (x:Nat×Nat) (j:Nat):(baseOf x).add j=⟨x.1,x.2+j,none⟩:=by unfold Addr.add baseOf;split<;>simp_all
def BlkR (w:World) (M:Nat→Prop) (X:Ctx) (id:Nat) (B:Blk) (fp:List Nat):Prop :=
 (∀ c∈B.l,c.length=B.k)∧∃ xs,RCs w M X B.l.flatten xs fp ∧
  ((B.kd=0∧∃ e,w.ownsRow 0 e B.k (.slice ((X.A id).map baseOf) B.l.length (X.C id)) B.l.length xs) ∨
   (B.kd≠0∧∃ x,X.A id=some x∧B.l.length=1∧CellsAt w x xs))
def Own (X:Ctx) (F:Nat→List Nat) (id:Nat):List Nat:=((X.A id).map (·.1)).toList++F id
def Mut1 (X:Ctx) (F:Nat→List Nat) (g:Nat):Prop:=∃ id B,X.H id=.live B∧g∈Own X F id
def Mut (X:Ctx) (F:Nat→List Nat) (g:Nat):Prop:=X.N g∨Mut1 X F g
theorem cellsAt_of_row {w:World} {e:TypeId} {k n c:Nat} {A:Option (Nat×Nat)} {xs:List Value} {x:Nat×Nat} (h:w.ownsRow 0 e k (.slice (A.map baseOf) n c) n xs) (hA:A=some x) :
  x.2=0∧CellsAt w x xs:=by
 subst hA;rcases h.2 with ⟨h1,_⟩|⟨g,cap,cur,he,_,hg,hn,hm,hs,ht⟩
 ·simp at h1
 ·simp only [Option.map_some,Value.slice.injEq,osi,baseOf,Addr.mk.injEq] at he;obtain ⟨⟨h1,h2,_⟩,_,rfl⟩:=he;refine ⟨h2,fun j u hu => ?_⟩;rw [add_baseOf,h1,h2,Nat.zero_add];refine ⟨?_,by simp [World.frozen?,hg]⟩;rw [cell_of_row w g j cur e (0,0) hg];rw [← ht,List.getElem?_take] at hu;split at hu
  ·simpa using hu
  ·cases hu
theorem row_nil_of_none {w:World} {e:TypeId} {k n c:Nat} {A:Option (Nat×Nat)} {xs:List Value} (h:w.ownsRow 0 e k (.slice (A.map baseOf) n c) n xs) (hA:A=none):n=0∧xs=[]∧c=0:=by
 subst hA;rcases h.2 with ⟨h1,h2⟩|⟨g,cap,cur,he,_⟩
 ·subst h2;have:=h.1;simp at this h1;exact ⟨rfl,this,h1⟩
 ·simp at he
theorem BlkR.frame {w w':World} {M M':Nat→Prop} {X X':Ctx} {F:Nat→List Nat} {id:Nat} {B:Blk} (h:BlkR w M X id B (F id)) (hown:∀ g∈Own X F id,w'.heap[g]? = w.heap[g]?)
  (hro:∀ g,g<w.heap.size→¬ M g→w'.heap[g]? = w.heap[g]?) (hM:∀ g,g<w.heap.size→¬ M g→¬ M' g) (hX:X.Le X') (hA:X'.A id=X.A id) (hC:X'.C id=X.C id):BlkR w' M' X' id B (F id):=by
 obtain ⟨hk,xs,hc,hrow⟩:=h;refine ⟨hk,xs,hc.frame (fun g hg=>hown g (by simp [Own,hg])) hro hM hX,?_⟩;rcases hrow with ⟨h0,e,hr⟩|⟨h0,x,hx,h1,hcell⟩
 ·refine .inl ⟨h0,e,?_⟩;rw [hA,hC];refine ownsRow_kept hr fun g hg=>hown g ?_
  cases hAA:X.A id with
  | none=>rw [hAA] at hg;simp [Value.ownBlock] at hg
  | some x=>rw [hAA] at hg;simp [Value.ownBlock,baseOf] at hg;simp [Own,hAA,hg]
 ·refine .inr ⟨h0,x,hA.trans hx,h1,fun j u hu => ?_⟩;obtain ⟨a,b⟩:=hcell j u hu;have hh:w'.heap[((baseOf x).add j).block]? = w.heap[((baseOf x).add j).block]? := hown _ (by rw [add_baseOf];simp [Own,hx]);exact ⟨(World.cell?_of_block hh).trans a,(World.frozen?_of_block hh).trans b⟩
theorem BlkR.cells {w:World} {M:Nat→Prop} {X:Ctx} {id:Nat} {B:Blk} {fp:List Nat} (h:BlkR w M X id B fp) (x:Nat×Nat) (hx:X.A id=some x):∃ xs,RCs w M X B.l.flatten xs fp∧CellsAt w x xs:=by
 obtain ⟨hk,xs,hc,hrow⟩:=h;refine ⟨xs,hc,?_⟩;rcases hrow with ⟨h0,e,hr⟩|⟨h0,y,hy,h1,hcell⟩
 ·exact (cellsAt_of_row hr hx).2
 ·obtain rfl:y=x:=by rw [hx] at hy;exact (Option.some.inj hy).symm
  exact hcell
inductive All2 {α β:Type} (R:α→β→Prop):List α→List β→Prop
 | nil:All2 R [] []
 | cons {a:α} {b:β} {l:List α} {m:List β} (h:R a b) (t:All2 R l m):All2 R (a::l) (b::m)
def look:List (Nat×RV)→Nat→RV
 | [],_=>.un
 | (s,v)::r,t=>if t=s then v else look r t
structure Env where
 n:Nat
 l:List (Nat×RV)
structure St where
 env:Env
 sus:List Env
 H:List Slot
def Env.get (E:Env) (t:Nat):RV:=look E.l t
def St.reg (σ:St) (t:Nat):RV:=look σ.env.l t
def St.put (σ:St) (t:Nat) (v:RV):St:={ σ with env:={ σ.env with l:=(t,v)::σ.env.l } }
def slotAt:List Slot→Nat→Slot
 | [],_=>.fresh
 | s::_,0=>s
 | _::r,n+1=>slotAt r n
def setAt:List Slot→Nat→Slot→List Slot
 | [],0,x=>[x]
 | [],n+1,x=>.fresh::setAt [] n x
 | _::r,0,x=>x::r
 | s::r,n+1,x=>s::setAt r n x
def St.slot (σ:St) (id:Nat):Slot:=slotAt σ.H id
def St.setSlot (σ:St) (id:Nat) (s:Slot):St:={ σ with H:=setAt σ.H id s }
theorem slotAt_setAt:∀ (l:List Slot) (i:Nat) (x:Slot) (j:Nat),slotAt (setAt l i x) j=if j=i then x else slotAt l j
 | [],0,x,0=>by simp [setAt,slotAt]
 | [],0,x,j+1=>by simp [setAt,slotAt]
 | [],i+1,x,0=>by simp [setAt,slotAt]
 | [],i+1,x,j+1=>by simp [setAt,slotAt,slotAt_setAt [] i x j]
 | s::r,0,x,0=>by simp [setAt,slotAt]
 | s::r,0,x,j+1=>by simp [setAt,slotAt]
 | s::r,i+1,x,0=>by simp [setAt,slotAt]
 | s::r,i+1,x,j+1=>by simp [setAt,slotAt,slotAt_setAt r i x j]
theorem St.slot_setSlot (σ:St) (id:Nat) (s:Slot) (j:Nat):(σ.setSlot id s).slot j=if j=id then s else σ.slot j:=slotAt_setAt ..
def R1R (w:World) (M:Nat→Prop) (X:Ctx):R1→Value→List Nat→Prop
 | .one p,v,fp=>RC w M X p v fp
 | .agg l,v,fp=>∃ xs:List Value,v=.agg xs.toArray∧RCs w M X l xs fp
def RVR (w:World) (M:Nat→Prop) (X:Ctx):RV→Value→Prop
 | .r x,v=>R1R w M X x v []
 | .tup l,v=>∃ vs:List Value,v=.tuple vs.toArray∧l.length=vs.length∧∀ (j:Nat) (x:R1) (u:Value),l[j]? = some x→vs[j]? = some u→R1R w M X x u []
 | .un,_=>True
section
variable {w w':World} {M M':Nat→Prop} {X X':Ctx}
theorem R1R.frame {x:R1} {v:Value} {fp:List Nat} (h:R1R w M X x v fp) (hown:∀ g∈fp,w'.heap[g]? = w.heap[g]?) (hro:∀ g,g<w.heap.size→¬ M g→w'.heap[g]? = w.heap[g]?)
  (hM:∀ g,g<w.heap.size→¬ M g→¬ M' g) (hX:X.Le X'):R1R w' M' X' x v fp:=by
 cases x with
 | one p=>exact RC.frame h hown hro hM hX
 | agg l=>obtain ⟨xs,rfl,hc⟩:=h;exact ⟨xs,rfl,hc.frame hown hro hM hX⟩
theorem RVR.frame {x:RV} {v:Value} (h:RVR w M X x v) (hro:∀ g,g<w.heap.size→¬ M g→w'.heap[g]? = w.heap[g]?)
  (hM:∀ g,g<w.heap.size→¬ M g→¬ M' g) (hX:X.Le X'):RVR w' M' X' x v:=by
 cases x with
 | r x=>exact R1R.frame h (by simp) hro hM hX
 | tup l=>obtain ⟨vs,rfl,hl,hc⟩:=h;exact ⟨vs,rfl,hl,fun j x u hx hu=>(hc j x u hx hu).frame (by simp) hro hM hX⟩
 | un=>trivial
end
structure EnvR (w:World) (M:Nat→Prop) (X:Ctx) (E:Env) (a:Act):Prop where
 defers:a.defers=[]
 size:a.tmps.size=E.n
 reg:∀ t,RVR w M X (E.get t) (a.tmps.getD t undef)
structure Kept (w0 w:World) (own:Nat→Prop) (wins:List (Nat×Nat×Nat)):Prop where
 os:w.os=w0.os
 tape:w.tape=w0.tape
 output:w.output=w0.output
 size:w0.heap.size≤w.heap.size
 old:∀ g,g<w0.heap.size→¬ own g→(∀ x∈wins,x.1≠g)→w.heap[g]? = w0.heap[g]?
 win:∀ x∈wins,∃ c0 ty fz c,w0.heap[x.1]? = some (.cells c0 ty fz)∧w.heap[x.1]? = some (.cells c ty fz)∧c.size=c0.size∧∀ j,(j<x.2.1∨x.2.1+x.2.2≤j)→c[j]? = c0[j]?
structure Fr where
 w0:World
 own0:Nat→Prop
 wins:List (Nat×Nat×Nat)
 τ:Nat→Value
 N:Nat→Prop
structure SimW (G:Fr) (X:Ctx) (F:Nat→List Nat) (σ:St) (acts:List Act) (w:World):Prop where
 hH:∀ id,X.H id=σ.slot id
 hτ:X.τ=G.τ
 hN:∀ g,G.N g→X.N g
 gok:(∀ g,G.own0 g→¬ G.N g)∧∀ g,G.N g→g<G.w0.heap.size
 envs:All2 (EnvR w (Mut X F) X) (σ.env::σ.sus) acts
 blk:∀ id B,X.H id=.live B→BlkR w (Mut X F) X id B (F id)
 nd:∀ id B,X.H id=.live B→(Own X F id).Nodup
 dj:∀ i j B B',X.H i=.live B→X.H j=.live B'→i≠j→∀ g∈Own X F i,g∉Own X F j
 lt:∀ g,Mut1 X F g→g<w.heap.size
 src:∀ g,Mut1 X F g→G.own0 g∨(∃ x∈G.wins,x.1=g)∨G.w0.heap.size≤g
 kept:Kept G.w0 w G.own0 G.wins
 win:∀ i x,G.wins[i]? = some x→∃ B,X.H i=.live B∧B.kd=2∧X.A i=some (x.1,x.2.1)∧B.k=x.2.2
def Sim (G:Fr) (σ:St) (acts:List Act) (w:World):Prop:=∃ X F,SimW G X F σ acts w
theorem All2.mono' {α β:Type} {R S:α→β→Prop} (h:∀ a b,R a b→S a b) {l:List α} {m:List β} (k:All2 R l m):All2 S l m:=by
 induction k with
 | nil=>exact .nil
 | cons a b ih=>exact .cons (h _ _ a) ih
section
variable {G:Fr} {X X':Ctx} {F F':Nat→List Nat} {σ σ':St} {acts:List Act} {w w':World}
theorem Mut_of1 (hX:X'.N=X.N) (hM:∀ g,Mut1 X' F' g→Mut1 X F g∨w.heap.size≤g) (g:Nat) (h:Mut X' F' g):Mut X F g∨w.heap.size≤g:=by
 rcases h with h|h
 ·rw [hX] at h;exact .inl (.inl h)
 ·exact (hM g h).imp .inr id
theorem SimW.envs_frame (h:SimW G X F σ acts w) (hX:X.Le X') (hNN:X'.N=X.N) (hM:∀ g,Mut1 X' F' g→Mut1 X F g∨w.heap.size≤g)
  (hw:∀ g,g<w.heap.size→¬ Mut X F g→w'.heap[g]? = w.heap[g]?):All2 (EnvR w' (Mut X' F') X') (σ.env::σ.sus) acts :=
 All2.mono' (fun E a k=>⟨k.defers,k.size,fun t=>(k.reg t).frame hw (fun g hg hn hm=>(Mut_of1 hNN hM g hm).elim hn (fun hh=>by omega)) hX⟩) h.envs
theorem SimW.step (h:SimW G X F σ acts w) (hH:∀ id,X'.H id=σ'.slot id) (hX:X.Le X') (hNN:X'.N=X.N) (he:σ'.env=σ.env) (hs:σ'.sus=σ.sus)
  (hM:∀ g,Mut1 X' F' g→Mut1 X F g∨w.heap.size≤g) (hlt:∀ g,Mut1 X' F' g→g<w'.heap.size)
  (hw:∀ g,g<w.heap.size→¬ Mut X F g→w'.heap[g]? = w.heap[g]?)
  (hk:Kept G.w0 w' G.own0 G.wins) (hb:∀ id B,X'.H id=.live B→BlkR w' (Mut X' F') X' id B (F' id))
  (hn:∀ id B,X'.H id=.live B→(Own X' F' id).Nodup)
  (hd:∀ i j B B',X'.H i=.live B→X'.H j=.live B'→i≠j→∀ g∈Own X' F' i,g∉Own X' F' j)
  (hwin:∀ i x,G.wins[i]? = some x→∃ B,X'.H i=.live B∧B.kd=2∧X'.A i=some (x.1,x.2.1)∧B.k=x.2.2):SimW G X' F' σ' acts w' where
 hH:=hH
 hτ:=hX.tok.trans h.hτ
 hN:=fun g hg=>by rw [hNN];exact h.hN g hg
 gok:=h.gok
 envs:=by rw [he,hs];exact h.envs_frame hX hNN hM hw
 blk:=hb
 nd:=hn
 dj:=hd
 lt:=hlt
 src:=fun g hg=>by
  rcases hM g hg with k|k
  ·exact h.src g k
  ·exact .inr (.inr (Nat.le_trans h.kept.size k))
 kept:=hk
 win:=hwin
def upd {α:Type} (f:Nat→α) (i:Nat) (x:α) (j:Nat):α:=if j=i then x else f j
theorem upd_same {α:Type} (f:Nat→α) (i:Nat) (x:α):upd f i x i=x:=by simp [upd]
theorem upd_ne {α:Type} (f:Nat→α) (i:Nat) (x:α) {j:Nat} (h:j≠i):upd f i x j=f j:=by simp [upd,h]
def Ctx.upd (X:Ctx) (id:Nat) (s:Slot) (A:Option (Nat×Nat)) (C:Nat):Ctx:=⟨AS.upd X.H id s,AS.upd X.A id A,AS.upd X.C id C,X.τ,X.N⟩
theorem Own_upd_ne {id i:Nat} {s:Slot} {A:Option (Nat×Nat)} {C:Nat} {fp:List Nat} (h:i≠id):Own (X.upd id s A C) (upd F id fp) i=Own X F i:=by
 simp [Own,Ctx.upd,upd_ne _ _ _ h]
theorem Own_upd_same {id:Nat} {s:Slot} {A:Option (Nat×Nat)} {C:Nat} {fp:List Nat}:Own (X.upd id s A C) (upd F id fp) id=(A.map (·.1)).toList++fp:=by
 simp [Own,Ctx.upd,upd_same]
theorem Mut_upd {id:Nat} {s:Slot} {A:Option (Nat×Nat)} {C:Nat} {fp:List Nat} {g:Nat} (h:Mut1 (X.upd id s A C) (upd F id fp) g) :
  (∃ B,s=.live B∧g∈(A.map (·.1)).toList++fp)∨∃ i B,i≠id∧X.H i=.live B∧g∈Own X F i:=by
 obtain ⟨i,B,hi,hg⟩:=h;by_cases e:i=id
 ·subst e;rw [Own_upd_same] at hg;exact .inl ⟨B,by simpa [Ctx.upd,upd_same] using hi,hg⟩
 ·rw [Own_upd_ne e] at hg;exact .inr ⟨i,B,e,by simpa [Ctx.upd,upd_ne _ _ _ e] using hi,hg⟩
theorem SimW.one (h:SimW G X F σ acts w) (id:Nat) (s:Slot) (A:Option (Nat×Nat)) (C:Nat) (fp:List Nat) (hs:s≠.fresh)
  (hle:∀ B',s=.live B'→X.H id=.fresh∨∃ B,X.H id=.live B∧(B.l.length<B'.l.length∨(B.l.length=B'.l.length∧B.k=B'.k∧B.kd=B'.kd∧A=X.A id∧C=X.C id)))
  (hown:∀ B',s=.live B'→∀ g∈(A.map (·.1)).toList++fp,(g<w'.heap.size)∧((∃ B,X.H id=.live B∧g∈Own X F id)∨w.heap.size≤g))
  (hn:∀ B',s=.live B'→((A.map (·.1)).toList++fp).Nodup)
  (hsz:w.heap.size≤w'.heap.size)
  (hw:∀ g,g<w.heap.size→(∀ B,X.H id=.live B→g∉Own X F id)→w'.heap[g]? = w.heap[g]?)
  (hk:Kept G.w0 w' G.own0 G.wins)
  (hb:∀ B',s=.live B'→X.Le (X.upd id s A C)→(∀ g,g<w.heap.size→¬ Mut X F g→¬ Mut (X.upd id s A C) (upd F id fp) g)→BlkR w' (Mut (X.upd id s A C) (upd F id fp)) (X.upd id s A C) id B' fp)
  (hwin:∀ x,G.wins[id]? = some x→∃ B,s=.live B∧B.kd=2∧A=some (x.1,x.2.1)∧B.k=x.2.2):SimW G (X.upd id s A C) (upd F id fp) (σ.setSlot id s) acts w':=by
 have hX:X.Le (X.upd id s A C):=by
  refine ⟨fun i e => ?_,fun i B' e => ?_,rfl⟩
  ·by_cases hi:i=id
   ·subst hi;simp [Ctx.upd,upd_same] at e;exact (hs e).elim
   ·simpa [Ctx.upd,upd_ne _ _ _ hi] using e
  ·by_cases hi:i=id
   ·subst hi;simp only [Ctx.upd,upd_same] at e ⊢;rcases hle B' e with k|⟨B,k,k2⟩
    ·exact .inl k
    ·refine .inr ⟨B,k,?_⟩;rcases k2 with k2|⟨a,b,c,d,e⟩
     ·exact .inl k2
     ·exact .inr ⟨a,b,c,d,e⟩
   ·simp only [Ctx.upd,upd_ne _ _ _ hi] at e;refine .inr ⟨B',e,.inr ⟨rfl,rfl,rfl,?_,?_⟩⟩<;>simp only [Ctx.upd,upd_ne _ _ _ hi]
 have hM:∀ g,Mut1 (X.upd id s A C) (upd F id fp) g→Mut1 X F g∨w.heap.size≤g:=by
  intro g hg;rcases Mut_upd hg with ⟨B,e,hg⟩|⟨i,B,hi,e,hg⟩
  ·rcases (hown B e g hg).2 with ⟨B0,k,k2⟩|k
   ·exact .inl ⟨id,B0,k,k2⟩
   ·exact .inr k
  ·exact .inl ⟨i,B,e,hg⟩
 have hM':∀ g,g<w.heap.size→¬ Mut X F g→¬ Mut (X.upd id s A C) (upd F id fp) g:=fun g hg hn hm=>(Mut_of1 (X:=X) (X':=X.upd id s A C) (F:=F) (F':=upd F id fp) (w:=w) rfl hM g hm).elim hn fun hh=>by omega
 have hwm:∀ g,g<w.heap.size→¬ Mut X F g→w'.heap[g]? = w.heap[g]? := fun g hg hn=>hw g hg fun B e hm=>hn (.inr ⟨id,B,e,hm⟩)
 refine h.step (fun i => ?_) hX rfl rfl rfl hM (fun g hg => ?_) hwm hk (fun i B e => ?_) (fun i B e => ?_) (fun i j B B' ei ej hij g hg hg' => ?_) (fun i x hx => ?_)
 ·rw [St.slot_setSlot];by_cases hi:i=id
  ·simp [Ctx.upd,hi,upd_same]
  ·simp [Ctx.upd,hi,upd_ne _ _ _ hi,h.hH]
 ·rcases Mut_upd hg with ⟨B,e,hg⟩|⟨i,B,hi,e,hg⟩
  ·exact (hown B e g hg).1
  ·exact Nat.lt_of_lt_of_le (h.lt g ⟨i,B,e,hg⟩) hsz
 ·by_cases hi:i=id
  ·subst hi;have e':s=.live B:=by simpa [Ctx.upd,upd_same] using e
   simpa [upd_same] using hb B e' hX hM'
  ·have e':X.H i=.live B:=by simpa [Ctx.upd,upd_ne _ _ _ hi] using e
   rw [upd_ne _ _ _ hi];refine (h.blk i B e').frame (fun g hg=>hw g (h.lt g ⟨i,B,e',hg⟩) fun B0 e0 hm=>h.dj i id B B0 e' e0 hi g hg hm) hwm hM' hX ?_ ?_<;>simp [Ctx.upd,upd_ne _ _ _ hi]
 ·by_cases hi:i=id
  ·subst hi;rw [Own_upd_same];exact hn B (by simpa [Ctx.upd,upd_same] using e)
  ·rw [Own_upd_ne hi];exact h.nd i B (by simpa [Ctx.upd,upd_ne _ _ _ hi] using e)
 ·by_cases hi:i=id
  ·subst hi;have hj:j≠i:=fun e=>hij e.symm
   rw [Own_upd_same] at hg;rw [Own_upd_ne hj] at hg';have ej':X.H j=.live B':=by simpa [Ctx.upd,upd_ne _ _ _ hj] using ej
   rcases (hown B (by simpa [Ctx.upd,upd_same] using ei) g hg).2 with ⟨B0,k,k2⟩|k
   ·exact h.dj i j B0 B' k ej' hij g k2 hg'
   ·have:=h.lt g ⟨j,B',ej',hg'⟩;omega
  ·have ei':X.H i=.live B:=by simpa [Ctx.upd,upd_ne _ _ _ hi] using ei
   rw [Own_upd_ne hi] at hg;by_cases hj:j=id
   ·subst hj;rw [Own_upd_same] at hg';rcases (hown B' (by simpa [Ctx.upd,upd_same] using ej) g hg').2 with ⟨B0,k,k2⟩|k
    ·exact h.dj i j B B0 ei' k hij g hg k2
    ·have:=h.lt g ⟨i,B,ei',hg⟩;omega
   ·rw [Own_upd_ne hj] at hg';exact h.dj i j B B' ei' (by simpa [Ctx.upd,upd_ne _ _ _ hj] using ej) hij g hg hg'
 ·by_cases hi:i=id
  ·subst hi;simpa [Ctx.upd,upd_same] using hwin x hx
  ·simpa [Ctx.upd,upd_ne _ _ _ hi] using h.win i x hx
end
inductive Ix where
 | t (n:Nat)
 | k (x:R1)
inductive AK where
 | mv (x:Ix)
 | nils (k:Nat)
 | pick (c x y:Ix)
 | box (x:Ix)
 | alloc (zs:List PV)
 | build (zs:List PV) (ps:List (Nat×Nat×Ix))
 | bsl (k n:Nat) (zs:List PV) (ps:List (Nat×Ix))
 | mks (k bytes:Nat) (zs:List PV) (x:Ix)
 | ld1 (x:Ix)
 | ld (n:Nat) (x:Ix)
 | st (n:Nat) (x y:Ix)
 | nchk (x:Ix)
 | bin (bo:Bool) (op:BinOp) (x y:Ix)
 | eqs (neq:Bool) (ks:List (Option IntKind)) (x y:Ix)
 | not (x:Ix)
 | neg (x:Ix)
 | conv (k:IntKind) (x:Ix)
 | slc (k:Nat) (x:Ix) (lo hi:Option Ix)
 | fa (off:Nat) (x:Ix)
 | ia (k:Nat) (x y:Ix)
 | len (x:Ix)
 | app (k bytes:Nat) (x y:Ix)
 | copy (x y:Ix)
 | mn (x y:Ix)
 | mx (x y:Ix)
 | ext (i:Nat) (x:Ix)
 | mkf (f:FuncId) (l:List Ix)
 | call (f:FuncId) (l:List Ix)
 | clo (x:Ix) (l:List Ix)
structure AOp where
 d:Option Nat
 g:Option (Nat×Bool)
 k:AK
inductive AC where
 | skip
 | reg (ops:List AOp)
 | dreg (ord:List (List Nat)) (ops:List AOp)
 | seq (x y:AC)
 | cond (c:Ix) (x y:AC)
 | block (id:Nat) (x:AC)
 | loop (x:AC)
 | exit (id:Nat)
 | ret
 | bad
def St.ev (σ:St):Ix→RV
 | .t n=>σ.reg n
 | .k x=>.r x
def St.ev1 (σ:St) (x:Ix):PV :=
 match σ.ev x with
 | .r (.one p)=>p
 | _=>.un
def RV.cells:RV→Option (List PV)
 | .r (.one .un)=>none
 | .r (.one p)=>some [p]
 | .r (.agg l)=>some l
 | _=>none
structure Eff where
 v:RV
 wh:List (Nat×Slot):=[]
 rd:List Nat:=[]
def setSlots (σ:St):List (Nat×Slot)→St
 | []=>σ
 | (i,s)::r=>setSlots (σ.setSlot i s) r
def St.app (σ:St) (d:Option Nat) (E:Eff):St :=
 match d with
 | some t=>(setSlots σ E.wh).put t E.v
 | none=>setSlots σ E.wh
def St.blk (σ:St) (id full:Nat) (K:Blk→Prop):Prop :=
 match σ.slot id with
 | .live B=>B.l.length=full∧K B
 | _=>False
def thaw:Nat→List PV→List PV×List (Nat×Slot)
 | _,[]=>([],[])
 | b,p::r=>match p with
  | .vs true k l=>((.ref b 0 l.length l.length)::(thaw (b+1) r).1,(b,.live ⟨0,k,[],l⟩)::(thaw (b+1) r).2)
  | p=>(p::(thaw b r).1,(thaw b r).2)
def wrapI (k:IntKind) (n:Int):PV:=.i k (k.wrap n)
def PV.free:PV→Bool
 | .vs true _ _=>false
 | _=>true
def binI (op:BinOp) (k:IntKind) (x y:Int) (K:PV→Prop):Prop :=
 match op with
 | .add=>K (wrapI k (x+y))
 | .sub=>K (wrapI k (x-y))
 | .mul=>K (wrapI k (x*y))
 | .quo=>y≠0∧K (wrapI k (x.tdiv y))
 | .rem=>y≠0∧K (.i k (x.tmod y))
 | .and=>K (wrapI k (BitVec.ofInt k.bits x &&& BitVec.ofInt k.bits y).toNat)
 | .or=>K (wrapI k (BitVec.ofInt k.bits x ||| BitVec.ofInt k.bits y).toNat)
 | .shr=>0≤y∧K (.i k (x/2 ^ min y.toNat k.bits))
 | .xor=>K (wrapI k (BitVec.ofInt k.bits x ^^^ BitVec.ofInt k.bits y).toNat)
 | .eql=>K (.b (x==y))
 | .neq=>K (.b (x != y))
 | .lss=>K (.b (decide (x<y)))
 | .leq=>K (.b (decide (x≤y)))
 | .gtr=>K (.b (decide (x>y)))
 | .geq=>K (.b (decide (x≥y)))
 | _=>False
def eqCells:List (Option IntKind)→List PV→List PV→(Bool→Prop)→Prop
 | [],[],[],K=>K true
 | some q::ks,.i k x::l,.i k' y::m,K=>k=q∧k'=q∧eqCells ks l m fun r=>K ((x==y)&&r)
 | none::ks,.b x::l,.b y::m,K=>eqCells ks l m fun r=>K ((x==y)&&r)
 | _,_,_,_=>False
def setParts (zs:List PV) (σ:St):List (Nat×Nat×Ix)→(List PV→Prop)→Prop
 | [],K=>K zs
 | (off,n,x)::r,K=>∃ c,(σ.ev x).cells=some c∧c.length=n∧off+n≤zs.length∧setParts (splice zs off c) σ r K
def setElems (k:Nat) (l:List (List PV)) (σ:St):List (Nat×Ix)→(List (List PV)→Prop)→Prop
 | [],K=>K l
 | (i,x)::r,K=>∃ c,(σ.ev x).cells=some c∧c.length=k∧i<l.length∧setElems k (l.set i c) σ r K
def evs (σ:St):List Ix→List PV
 | []=>[]
 | x::r=>σ.ev1 x::evs σ r
def effK (σ:St) (b:Nat) (k:AK) (K:Eff→Prop):Prop :=
 match k with
 | .mv x=>K { v:=σ.ev x }
 | .nils k=>σ.slot b=.fresh∧K { v:=.r (.one (.ref b 0 0 0)),wh:=[(b,.live ⟨0,k,[],[]⟩)] }
 | .pick c x y=>match σ.ev1 c with
  | .b t=>if t=true then K { v:=σ.ev x } else K { v:=σ.ev y }
  | _=>False
 | .box x=>σ.slot b=.fresh∧match (σ.ev x).cells with
  | some c=>K { v:=.r (.one (.ptr b 1 0 0)),wh:=[(b,.live ⟨1,c.length,[],[c]⟩)] }
  | none=>False
 | .alloc zs=>σ.slot b=.fresh∧K { v:=.r (.one (.ptr b 1 0 0)),wh:=[(b,.live ⟨1,zs.length,[],[zs]⟩)] }
 | .build zs ps=>setParts zs σ ps fun l=>K { v:=.r (.agg l) }
 | .bsl k n zs ps=>σ.slot b=.fresh∧setElems k (List.replicate n zs) σ ps fun l=>K { v:=.r (.one (.ref b 0 n n)),wh:=[(b,.live ⟨0,k,[],l⟩)] }
 | .mks k bytes zs x=>σ.slot b=.fresh∧match σ.ev1 x with
  | .i .i64 n=>0≤n∧n.toNat*bytes≤140737488355328∧n.toNat≤9223372036854775807∧K { v:=.r (.one (.ref b 0 n.toNat n.toNat)),wh:=[(b,.live ⟨0,k,[],List.replicate n.toNat zs⟩)] }
  | _=>False
 | .ld1 x=>match σ.ev1 x with
  | .ptr id full e j=>σ.blk id full fun B=>∃ c p,B.l[e]? = some c∧c[j]? = some p∧match p with
   | .vs true k l=>σ.slot b=.fresh∧K { v:=.r (.one (.ref b 0 l.length l.length)),wh:=[(id,.live { B with kids:=[],l:=B.l.set e (c.set j (.ref b 0 l.length l.length)) }),(b,.live ⟨0,k,[],l⟩)],rd:=[id] }
   | p=>K { v:=.r (.one p),rd:=[id] }
  | .rp l j=>∃ p,l[j]? = some p∧K { v:=.r (.one p.sh) }
  | _=>False
 | .ld n x=>match σ.ev1 x with
  | .ptr id full e j=>σ.blk id full fun B=>∃ c,B.l[e]? = some c∧j+n≤c.length∧match thaw b ((c.drop j).take n) with
   | (_,[])=>K { v:=.r (.agg ((c.drop j).take n)),rd:=[id] }
   | (l,ws)=>(∀ y∈ws,σ.slot y.1=.fresh)∧K { v:=.r (.agg l),wh:=(id,.live { B with kids:=[],l:=B.l.set e (splice c j l) })::ws,rd:=[id] }
  | .rp l j=>j+n≤l.length∧K { v:=.r (.agg (((l.drop j).take n).map PV.sh)) }
  | _=>False
 | .st n x y=>match σ.ev1 x with
  | .ptr id full e j=>σ.blk id full fun B=>∃ c ys,B.l[e]? = some c∧(σ.ev y).cells=some ys∧ys.length=n∧j+n≤c.length ∧
    K { v:=.un,wh:=[(id,.live { B with kids:=[],l:=B.l.set e (splice c j ys) })] }
  | _=>False
 | .nchk x=>match σ.ev1 x with
  | .ptr id full e j=>K { v:=.r (.one (.ptr id full e j)) }
  | .rp l j=>K { v:=.r (.one (.rp l j)) }
  | _=>False
 | .bin bo op x y=>match σ.ev1 x,σ.ev1 y with
  | .i k m,.i k' n=>k=k'∧binI op k m n fun p=>K { v:=.r (.one p) }
  | .b m,.b n=>bo=true∧match op with
   | .eql=>K { v:=.r (.one (.b (m==n))) }
   | .neq=>K { v:=.r (.one (.b (m != n))) }
   | _=>False
  | _,_=>False
 | .eqs ng ks x y=>match σ.ev x,σ.ev y with
  | .r (.agg l),.r (.agg m)=>eqCells ks l m fun r=>K { v:=.r (.one (.b (if ng then !r else r))) }
  | _,_=>False
 | .not x=>match σ.ev1 x with
  | .b t=>K { v:=.r (.one (.b (!t))) }
  | _=>False
 | .neg x=>match σ.ev1 x with
  | .i k n=>K { v:=.r (.one (wrapI k (0-n))) }
  | _=>False
 | .conv k x=>match σ.ev1 x with
  | .i _ n=>K { v:=.r (.one (wrapI k n)) }
  | _=>False
 | .slc k x lo hi =>
  let bd (o:Option Ix) (dflt:Nat) (K':Nat→Prop):Prop:=match o with
   | none=>K' dflt
   | some y=>match σ.ev1 y with
    | .i _ n=>0≤n∧K' n.toNat
    | _=>False
  match σ.ev1 x with
  | .ref id l0 len full=>σ.blk id full fun B=>B.k=k∧bd hi len fun h=>bd lo 0 fun l=>l≤h∧h≤len∧K { v:=.r (.one (.ref id (l0+l) (h-l) full)),rd:=[id] }
  | .vs o k' l0=>(o=false∨l0=[])∧(k'=k∨l0=[])∧bd hi l0.length fun h=>bd lo 0 fun l=>l≤h∧h≤l0.length∧K { v:=.r (.one (.vs false k ((l0.drop l).take (h-l)))) }
  | _=>False
 | .fa off x=>match σ.ev1 x with
  | .ptr id full e j=>K { v:=.r (.one (.ptr id full e (j+off))) }
  | .rp l j=>K { v:=.r (.one (.rp l (j+off))) }
  | _=>False
 | .ia k x y=>match σ.ev1 x,σ.ev1 y with
  | .ref id lo len full,.i _ n=>σ.blk id full fun B=>B.k=k∧0≤n∧n<len∧K { v:=.r (.one (.ptr id full (lo+n.toNat) 0)),rd:=[id] }
  | .vs o k' l,.i _ n=>0≤n∧k'=k∧o=false∧∃ c,l[n.toNat]? = some c∧K { v:=.r (.one (.rp c 0)) }
  | _,_=>False
 | .len x=>match σ.ev1 x with
  | .ref _ _ len _=>K { v:=.r (.one (.i .i64 len)) }
  | .vs _ _ l=>K { v:=.r (.one (.i .i64 l.length)) }
  | _=>False
 | .app k bytes x y =>
  let src (K':List (List PV)→List Nat→Prop):Prop:=match σ.ev1 y with
   | .ref id lo len full=>σ.blk id full fun B=>B.k=k∧(∀ c∈B.l,∀ p∈c,p.free=true)∧K' ((B.l.drop lo).take len) [id]
   | .vs o k' l=>(o=false∨l=[])∧(k'=k∨l=[])∧K' (l.map fun c=>c.map PV.sh) []
   | _=>False
  match σ.ev1 x with
  | .ref id 0 len full=>len=full∧σ.blk id full fun B=>B.k=k∧src fun ys rd=>(len+ys.length)*bytes≤140737488355328∧(∀ c∈ys,c.length=k) ∧
    K { v:=.r (.one (.ref id 0 (len+ys.length) (len+ys.length))),wh:=[(id,.live { B with kids:=[],l:=B.l++ys })],rd:=id::rd }
  | .vs true _ []=>σ.slot b=.fresh∧src fun ys rd=>ys.length*bytes≤140737488355328∧(∀ c∈ys,c.length=k) ∧
    K { v:=.r (.one (.ref b 0 ys.length ys.length)),wh:=[(b,.live ⟨0,k,[],ys⟩)],rd:=rd }
  | _=>False
 | .copy x y =>
  let src (K':List (List PV)→List Nat→Prop):Prop:=match σ.ev1 y with
   | .ref id lo len full=>σ.blk id full fun B=>B.k=1∧(∀ c∈B.l,∀ p∈c,p.free=true)∧K' ((B.l.drop lo).take len) [id]
   | .vs o k' l=>(o=false∨l=[])∧(k'=1∨l=[])∧K' (l.map fun c=>c.map PV.sh) []
   | _=>False
  match σ.ev1 x with
  | .ref id lo len full=>σ.blk id full fun B=>B.k=1∧src fun ys rd=>(∀ c∈ys,c.length=1) ∧
    K { v:=.r (.one (.i .i64 ((min ys.length len:Nat):Int))),wh:=[(id,.live { B with kids:=[],l:=B.l.take lo++ys.take len++B.l.drop (lo+min ys.length len) })],rd:=id::rd }
  | _=>False
 | .mn x y=>match σ.ev1 x,σ.ev1 y with
  | .i k m,.i _ n=>K { v:=.r (.one (.i k (if n<m then n else m))) }
  | _,_=>False
 | .mx x y=>match σ.ev1 x,σ.ev1 y with
  | .i k m,.i _ n=>K { v:=.r (.one (.i k (if n>m then n else m))) }
  | _,_=>False
 | .ext i x=>match σ.ev x with
  | .tup l=>∃ y,l[i]? = some y∧K { v:=.r y }
  | _=>False
 | .mkf f l=>(∀ p∈evs σ l,p≠.un)∧K { v:=.r (.one (.fn f (evs σ l))) }
 | .call .. => False
 | .clo .. => False
def constOk:Value→PV→Bool
 | .int k n,.i k' n'=>decide (k=k')&&n==n'
 | .bool x,.b y=>x==y
 | .string x,.s y=>decide (x=y)
 | .pointer none,.np=>true
 | .slice none 0 0,.vs true _ []=>true
 | _,_=>false
def cellsOk:List Value→List PV→Bool
 | [],[]=>true
 | v::l,p::m=>constOk v p&&cellsOk l m
 | _,_=>false
def ixOk:Operand→Ix→Bool
 | .tmp n,.t m=>n==m
 | .const v,.k (.one p)=>constOk v p
 | .const (.agg xs),.k (.agg l)=>cellsOk xs.toList l
 | .func f,.k (.one (.fn g []))=>f==g
 | _,_=>false
section
variable {P:Program} {G:Fr} {X:Ctx} {F:Nat→List Nat} {σ:St} {a:Act} {acts:List Act} {w:World} {M:Nat→Prop}
theorem RC.i_inv {k:IntKind} {n:Int} {v:Value} {fp:List Nat} (h:RC w M X (.i k n) v fp):v=.int k n:=by cases h;rfl
theorem RC.b_inv {x:Bool} {v:Value} {fp:List Nat} (h:RC w M X (.b x) v fp):v=.bool x:=by cases h;rfl
theorem RC.ptr_inv {id full e j:Nat} {v:Value} {fp:List Nat} (h:RC w M X (.ptr id full e j) v fp):∃ a,v=.pointer (some a)∧X.H id≠.fresh ∧
  ∀ B,X.H id=.live B→full≤B.l.length∧(B.l.length=full→e<full∧∃ x,X.A id=some x∧v=.pointer (some ((baseOf x).add (e*B.k+j)))):=by
 cases h with
 | ptr h0 h hs=>obtain ⟨a,rfl⟩:=hs;exact ⟨a,rfl,h0,h⟩
theorem RC.rp_inv {l:List PV} {j:Nat} {v:Value} {fp:List Nat} (h:RC w M X (.rp l j) v fp):∃ (ad:Addr) (xs:List Value),v=.pointer (some (ad.add j))∧l.length=xs.length ∧
  (∀ (i:Nat) (u:Value),xs[i]? = some u→¬ M ad.block∧w.cell? (ad.add i)=some u)∧(∀ (i:Nat) (p:PV) (u:Value),l[i]? = some p→xs[i]? = some u→RC w M X p.sh u []):=by
 cases h with
 | rp hl hx hc=>exact ⟨_,_,rfl,hl,hx,hc⟩
theorem constOk_rel {v:Value} {p:PV} (h:constOk v p=true):RC w M X p v []:=by
 unfold constOk at h;split at h
 ·simp at h;obtain ⟨rfl,rfl⟩:=h;exact .i
 ·simp at h;subst h;exact .b
 ·simp at h;subst h;exact .s
 ·exact .np
 ·exact RC.own (fps:=[]) 0 (World.ownsRow_nil w 0 0 _) (by simp) rfl rfl (by simp)
 ·simp at h
theorem cellsOk_rel:∀ {l:List Value} {m:List PV},cellsOk l m=true→RCs w M X m l []
 | [],[],_=>RCs.nil
 | v::l,p::m,h=>by
  simp [cellsOk] at h;simpa using RCs.cons (constOk_rel h.1) (cellsOk_rel h.2)
 | [],_::_,h=>by simp [cellsOk] at h
 | _::_,[],h=>by simp [cellsOk] at h
theorem SimW.reg (h:SimW G X F σ (a::acts) w) (t:Nat):RVR w (Mut X F) X (σ.reg t) (a.tmps.getD t undef):=by
 cases h.envs with
 | cons h1 _=>exact h1.reg t
theorem SimW.ev (h:SimW G X F σ (a::acts) w) {x:Operand} {y:Ix} (hx:ixOk x y=true):RVR w (Mut X F) X (σ.ev y) (a.eval x):=by
 unfold ixOk at hx;split at hx
 ·simp at hx;subst hx;exact h.reg _
 ·exact constOk_rel hx
 ·exact ⟨_,rfl,cellsOk_rel hx⟩
 ·simp at hx;subst hx;exact RC.fn (xs:=[]) rfl (by simp)
 ·simp at hx
theorem SimW.ev1 (h:SimW G X F σ (a::acts) w) {x:Operand} {y:Ix} (hx:ixOk x y=true) (hn:σ.ev1 y≠.un):RC w (Mut X F) X (σ.ev1 y) (a.eval x) []:=by
 have k:=h.ev hx;unfold St.ev1 at hn ⊢;cases e:σ.ev y with
 | r z =>
  rw [e] at k hn;cases z with
  | one p=>exact k
  | agg l=>simp at hn
 | tup l=>rw [e] at hn;simp at hn
 | un=>rw [e] at hn;simp at hn
theorem SimW.cells (h:SimW G X F σ (a::acts) w) {x:Operand} {y:Ix} (hx:ixOk x y=true) {c:List PV} (hc:(σ.ev y).cells=some c) :
  ∃ xs,(a.eval x).cells=xs.toArray∧RCs w (Mut X F) X c xs []:=by
 have k:=h.ev hx;cases e:σ.ev y with
 | r z =>
  rw [e] at k hc;cases z with
  | one p =>
   have hp:c=[p]:=by
    cases p<;>simp [RV.cells] at hc<;>exact hc.symm
   subst hp;have k':RC w (Mut X F) X p (a.eval x) []:=k;refine ⟨[a.eval x],?_,by simpa using RCs.cons k' RCs.nil⟩;have:=k'.oneCell;cases hv:a.eval x<;>simp [hv,Value.oneCell'] at this<;>rfl
  | agg l =>
   simp [RV.cells] at hc;subst hc;obtain ⟨xs,hv,hl⟩:=k;exact ⟨xs,by rw [hv];rfl,hl⟩
 | tup l=>rw [e] at hc;simp [RV.cells] at hc
 | un=>rw [e] at hc;simp [RV.cells] at hc
def Outs (P:Program) (G:Fr) (σ:St) (acts:List Act) (a:Act) (o:Oper) (w:World) (E:Eff):Prop :=
 ∃ v w',((execOp a.eval o).run P w=.ok (.value v) w'∨((execOp a.eval o).run P w=.ok .skip w'∧v=undef)) ∧
  ∃ X F,SimW G X F (setSlots σ E.wh) (a::acts) w'∧RVR w' (Mut X F) X E.v v
theorem Outs.quiet (h:SimW G X F σ (a::acts) w) {o:Oper} {v:Value} {x:RV} {rd:List Nat} (hv:(execOp a.eval o).run P w=.ok (.value v) w) (hx:RVR w (Mut X F) X x v) :
  Outs P G σ acts a o w { v:=x,rd:=rd }:=⟨v,w,.inl hv,X,F,h,hx⟩
theorem sound_mv (h:SimW G X F σ (a::acts) w) {o:Oper} {x:Operand} {y:Ix} (ho:o.op=.move x∨o.op=.assign x) (hx:ixOk x y=true) :
  Outs P G σ acts a o w { v:=σ.ev y }:=by
 refine .quiet h (v:=a.eval x) ?_ (h.ev hx);rcases ho with ho|ho<;>simp [execOp,ho,pure,Sem.run]
theorem sound_pick (h:SimW G X F σ (a::acts) w) {o:Oper} {c x y:Operand} {c' x' y':Ix} (ho:o.op=.pick c x y) (hc:ixOk c c'=true) (hx:ixOk x x'=true) (hy:ixOk y y'=true)
  {K:Eff→Prop} {b:Nat} (he:effK σ b (.pick c' x' y') K):∃ E,K E∧Outs P G σ acts a o w E:=by
 simp only [effK] at he;split at he
 ·rename_i t ht;have hcv:=h.ev1 hc (by rw [ht];simp);rw [ht] at hcv;have hrun:(execOp a.eval o).run P w=.ok (.value (if t=true then a.eval x else a.eval y)) w:=by
   have:a.eval c=.bool t:=hcv.b_inv;simp [execOp,ho,this,asBool,pure,bind,Sem.bind,Sem.run]
  cases t
  ·exact ⟨_,by simpa using he,.quiet h hrun (by simpa using h.ev hy)⟩
  ·exact ⟨_,by simpa using he,.quiet h hrun (by simpa using h.ev hx)⟩
 ·exact he.elim
end
section
variable {P:Program} {G:Fr} {X:Ctx} {F:Nat→List Nat} {σ:St} {a:Act} {acts:List Act} {w:World} {M:Nat→Prop} {o:Oper} {b:Nat} {K:Eff→Prop}
theorem addr_add_add (a:Addr) (i j:Nat):(a.add i).add j=a.add (i+j):=by
 unfold Addr.add;by_cases h1:i=0<;>by_cases h2:j=0<;>simp [h1,h2,Nat.add_assoc]
theorem RC.ref_inv {id lo len full:Nat} {v:Value} {fp:List Nat} (h:RC w M X (.ref id lo len full) v fp):X.H id≠.fresh∧(∃ a c,v=.slice a len c) ∧
  ∀ B,X.H id=.live B→full≤B.l.length∧(B.l.length=full→B.kd=0∧lo+len≤full∧RefOk X id B.k lo len v):=by
 cases h with
 | ref h0 h hs=>exact ⟨h0,hs,h⟩
theorem RC.vs_slice {q:Bool} {k:Nat} {l:List (List PV)} {v:Value} {fp:List Nat} (h:RC w M X (.vs q k l) v fp):∃ A c,v=.slice A l.length c∧l.length≤c:=by
 cases h with
 | own e hr =>
        rcases hr.2 with ⟨rfl,hn⟩|⟨g,cap,cur,rfl,_,_,hn,_⟩
        ·exact ⟨none,0,by rw [hn],by omega⟩
        ·exact ⟨_,cap,rfl,hn⟩
 | ro hn=>exact ⟨_,_,rfl,hn⟩
theorem RC.ptr_mk {id full e j off:Nat} {v:Value} {fp:List Nat} (h:RC w M X (.ptr id full e j) v fp) :
  ∃ ad:Addr,v=.pointer (some ad)∧RC w M X (.ptr id full e (j+off)) (.pointer (some (ad.add off))) []:=by
 obtain ⟨ad,rfl,h0,h1⟩:=h.ptr_inv;refine ⟨ad,rfl,.ptr h0 (fun B hB => ?_) ⟨_,rfl⟩⟩;obtain ⟨h2,h3⟩:=h1 B hB;refine ⟨h2,fun e1 => ?_⟩;obtain ⟨h4,x,h5,h6⟩:=h3 e1;refine ⟨h4,x,h5,?_⟩;injection h6 with h6;injection h6 with h6;rw [h6,addr_add_add,Nat.add_assoc]
theorem sound_fa (h:SimW G X F σ (a::acts) w) {s f off:Nat} {x:Operand} {y:Ix} {fs:Array Field} {fd:Field} {n:TypeInfo} (ho:o.op=.fieldAddr s x f) (hx:ixOk x y=true)
  (hs:P.underlying s=some (.struct fs)) (hf:fs[f]? = some fd) (hoff:fd.offset=off) (hn:P.info? fd.type=some n) (h0:n.size≠0)
  (he:effK σ b (.fa off y) K):∃ E,K E∧Outs P G σ acts a o w E:=by
 have hrun:∀ ad:Addr,a.eval x=.pointer (some ad)→(execOp a.eval o).run P w=.ok (.value (.pointer (some (ad.add off)))) w:=by
  intro ad hv;simp [execOp,ho,hv,Instr.fieldAt,underlying,hs,hf,Instr.sureAddr,fieldPlace,sizeOf,typeInfo,hn,h0,hoff]
 simp only [effK] at he;split at he
 ·rename_i id full e j hy;have hv:=h.ev1 hx (by rw [hy];simp);rw [hy] at hv;obtain ⟨ad,e1,hr⟩:=hv.ptr_mk (off:=off);exact ⟨_,he,.quiet h (hrun ad e1) hr⟩
 ·rename_i l j hy;have hv:=h.ev1 hx (by rw [hy];simp);rw [hy] at hv;obtain ⟨ad,xs,e1,hl,hx2,hc⟩:=hv.rp_inv;refine ⟨_,he,.quiet h (hrun _ e1) ?_⟩;rw [addr_add_add];exact .rp hl hx2 hc
 ·exact he.elim
theorem sound_nchk (h:SimW G X F σ (a::acts) w) {x:Operand} {y:Ix} (ho:o.op=.nilCheck x) (hx:ixOk x y=true)
  (he:effK σ b (.nchk y) K):∃ E,K E∧Outs P G σ acts a o w E:=by
 have hrun:∀ ad:Addr,a.eval x=.pointer (some ad)→(execOp a.eval o).run P w=.ok (.value (.pointer (some ad))) w:=by
  intro ad hv;simp [execOp,ho,hv]
 simp only [effK] at he;split at he
 ·rename_i id full e j hy;have hv:=h.ev1 hx (by rw [hy];simp);rw [hy] at hv;obtain ⟨ad,e1,_⟩:=hv.ptr_inv;refine ⟨_,he,.quiet h (hrun ad e1) ?_⟩;rw [← e1];exact hv
 ·rename_i l j hy;have hv:=h.ev1 hx (by rw [hy];simp);rw [hy] at hv;obtain ⟨ad,xs,e1,hl,hx2,hc⟩:=hv.rp_inv;exact ⟨_,he,.quiet h (hrun _ e1) (.rp hl hx2 hc)⟩
 ·exact he.elim
theorem blk_inv {id full:Nat} {Q:Blk→Prop} (h:σ.blk id full Q):∃ B,σ.slot id=.live B∧B.l.length=full∧Q B:=by
 unfold St.blk at h;split at h
 ·rename_i B hB;exact ⟨B,hB,h.1,h.2⟩
 ·exact h.elim
theorem sound_ia (h:SimW G X F σ (a::acts) w) {t:TypeId} {e:TypeId} {i:TypeInfo} {x y:Operand} {x' y':Ix} {k:Nat} (ho:o.op=.indexAddr t x y) (hx:ixOk x x'=true) (hy:ixOk y y'=true)
  (ht:P.underlying t=some (.slice e)) (hi:P.info? e=some i) (hk:i.size=k) (hkp:0<k)
  (he:effK σ b (.ia k x' y') K):∃ E,K E∧Outs P G σ acts a o w E:=by
 have hrun:∀ (ad:Addr) (n c:Nat) (kk:IntKind) (m:Int),a.eval x=.slice (some ad) n c→a.eval y=.int kk m→0≤m→m<n →
   (execOp a.eval o).run P w=.ok (.value (.pointer (some (ad.add (m.toNat*k))))) w:=by
  intro ad n c kk m hv hm h0 h1;simp [execOp,ho,hv,hm,Instr.indexAt,asIntOf,underlying,ht,sizeOf,typeInfo,hi,hk,h0,h1]
 simp only [effK] at he;split at he
 ·rename_i id lo len full kk m hxx hyy;have hv:=h.ev1 hx (by rw [hxx];simp);have hm:=h.ev1 hy (by rw [hyy];simp);rw [hxx] at hv;rw [hyy] at hm;obtain ⟨B,hB,hl,hBk,h0,h1,hK⟩:=blk_inv he;obtain ⟨hf,_,hlive⟩:=hv.ref_inv;obtain ⟨_,h3⟩:=hlive B (by rw [h.hH];exact hB);obtain ⟨hkd,h4,A,c,hv2,hc,hA0,hA1⟩:=h3 hl;have hA:=hA1 (by omega);have hBR:=h.blk id B (by rw [h.hH];exact hB);obtain ⟨hcl,xs,hcs,hrow⟩:=hBR;obtain ⟨e',hr⟩:∃ e',w.ownsRow 0 e' B.k (.slice ((X.A id).map baseOf) B.l.length (X.C id)) B.l.length xs:=by
   rcases hrow with ⟨_,k2⟩|⟨hne,_⟩
   ·exact k2
   ·exact (hne hkd).elim
  cases hAA:X.A id with
  | none=>have:=row_nil_of_none hr hAA;omega
  | some z =>
   rw [hAA] at hA;subst hA;refine ⟨_,hK,.quiet h (hrun _ len c kk m hv2 hm.i_inv h0 (by omega)) ?_⟩;refine .ptr hf (fun B' hB' => ?_) ⟨_,rfl⟩;obtain rfl:B=B':=by rw [h.hH,hB] at hB';injection hB'
   refine ⟨by omega,fun _=>⟨by omega,z,hAA,?_⟩⟩;rw [addr_add_add,hBk,Nat.add_zero,Nat.add_mul]
 ·rename_i q k' l kk m hxx hyy;have hv:=h.ev1 hx (by rw [hxx];simp);have hm:=h.ev1 hy (by rw [hyy];simp);rw [hxx] at hv;rw [hyy] at hm;obtain ⟨h0,rfl,rfl,c,hc,hK⟩:=he;generalize hvv:a.eval x=v at hv;cases hv with
  | @ro _ _ A cap xs hn hkk hl hxs hcc =>
   have hml:m.toNat<l.length:=(List.getElem?_eq_some_iff.1 hc).1;have hck:c.length=k':=hkk c (List.mem_of_getElem? hc);have hfl:=flatten_len l hkk;have hlt:m.toNat*k'<xs.length:=by
    rw [← hl,hfl];exact Nat.mul_lt_mul_of_pos_right hml hkp
   obtain ⟨ad,rfl,hM,hcell⟩:=hxs (m.toNat*k') _ (List.getElem?_eq_getElem hlt);refine ⟨_,hK,.quiet h (hrun ad _ cap kk m hvv hm.i_inv h0 (by omega)) ?_⟩;have hb:(ad.add (m.toNat*k')).block=ad.block:=by unfold Addr.add;split<;>rfl
   have hseg:=flatten_seg l hkk m.toNat 0 k' c hc (by omega);have h1:RC w (Mut X F) X (.rp c 0) (.pointer (some ((ad.add (m.toNat*k')).add 0))) []:=by
    refine RC.rp (xs:=(xs.drop (m.toNat*k')).take k') ?_ (fun i u hu => ?_) (fun i p u hp hu => ?_)
    ·rw [List.length_take,List.length_drop,hck,←hl,hfl];have:(m.toNat+1)*k'≤l.length*k':=Nat.mul_le_mul_right _ hml;rw [Nat.add_mul] at this;omega
    ·rw [List.getElem?_take] at hu;split at hu
     ·rw [List.getElem?_drop] at hu;obtain ⟨ad',e1,hM',hcell'⟩:=hxs _ u hu;injection e1 with e1;subst e1;rw [hb,addr_add_add];exact ⟨hM',hcell'⟩
     ·simp at hu
    ·have hp':l.flatten[m.toNat*k'+i]? = some p:=by
      have hi:i<k':=by have:=(List.getElem?_eq_some_iff.1 hp).1;omega
      rw [flatten_get l hkk _ _ hi,hc];exact hp
     rw [List.getElem?_take] at hu;split at hu
     ·rw [List.getElem?_drop] at hu;exact hcc _ p u hp' hu
     ·simp at hu
   exact h1
 ·exact he.elim
end
section
variable {P:Program} {G:Fr} {X:Ctx} {F:Nat→List Nat} {σ:St} {a:Act} {acts:List Act} {w:World} {M:Nat→Prop} {o:Oper} {b:Nat} {K:Eff→Prop}
theorem sound_len (h:SimW G X F σ (a::acts) w) {t e:TypeId} {x:Operand} {y:Ix} (ho:o.op=.call { callee:=.builtin .len,args:=#[x],argTypes:=#[t] }) (ht:P.underlying t=some (.slice e)) (hx:ixOk x y=true)
  (he:effK σ b (.len y) K):∃ E,K E∧Outs P G σ acts a o w E:=by
 have hrun:∀ (A:Option Addr) (n c:Nat),a.eval x=.slice A n c→(execOp a.eval o).run P w=.ok (.value (.int .i64 n)) w:=by
  intro A n c hv;simp [execOp,ho,resolve,invoke,builtin,hv,Builtin.len_,underlying,ht,goInt]
 simp only [effK] at he;split at he
 ·rename_i id lo len full hy;have hv:=h.ev1 hx (by rw [hy];simp);rw [hy] at hv;obtain ⟨_,⟨A,c,e1⟩,_⟩:=hv.ref_inv;exact ⟨_,he,.quiet h (hrun A _ c e1) .i⟩
 ·rename_i q k l hy;have hv:=h.ev1 hx (by rw [hy];simp);rw [hy] at hv;obtain ⟨A,c,e1,_⟩:=hv.vs_slice;exact ⟨_,he,.quiet h (hrun A _ c e1) .i⟩
 ·exact he.elim
theorem run_binI {op:BinOp} {k:IntKind} {m n:Int} {t:TypeId} {K:PV→Prop} (he:binI op k m n K) :
  ∃ p v,K p∧RC w M X p v []∧(binOp op t (.int k m) (.int k n)).run P w=.ok v w:=by
 by_cases hs:op=.shr
 ·subst hs;obtain ⟨h0,hK⟩:=he;exact ⟨_,_,hK,.i,by simp [binOp,shift_shr_any _ _ _ _ h0]⟩
 unfold binI at he;cases op<;>simp only at he<;>first
  | exact he.elim
  | exact (hs rfl).elim
  | (obtain ⟨h0,hK⟩:=he;exact ⟨_,_,hK,.i,by simp [binOp,Op.intDiv,h0,wrapI]⟩)
  | exact ⟨_,_,he,.i,by simp [binOp,Op.intArith,Op.intBits,wrapI]⟩
  | exact ⟨_,_,he,.b,by simp [binOp,Op.intCmp]⟩
theorem run_eqGuard_int {op:BinOp} {t:TypeId} {x y:Operand} {k k':IntKind} {m n:Int}:(eqGuard op t x y (.int k m) (.int k' n)).run P w=.ok () w:=by
 unfold eqGuard;cases op<;>simp
theorem run_eqGuard_bool {op:BinOp} {t:TypeId} {x y:Operand} {m n:Bool}:(eqGuard op t x y (.bool m) (.bool n)).run P w=.ok () w:=by
 unfold eqGuard;cases op<;>simp
theorem run_equal_bool {t:TypeId} {m n:Bool} (hu:P.underlying t=some .bool):(Op.equal t (.bool m) (.bool n)).run P w=.ok (m==n) w:=by
 unfold Op.equal;rw [show Op.maxDepth=9999+1 from rfl,Op.equalIn];simp [underlying,hu]
theorem run_eql_bool {t:TypeId} {m n:Bool} (hu:P.underlying t=some .bool):(binOp .eql t (.bool m) (.bool n)).run P w=.ok (.bool (m==n)) w:=by
 show Sem.run P (do pure (Value.bool (← Op.equal t (.bool m) (.bool n))):Sem Value) w=_;rw [Sem.run_bind,run_equal_bool hu];rfl
theorem run_neq_bool {t:TypeId} {m n:Bool} (hu:P.underlying t=some .bool):(binOp .neq t (.bool m) (.bool n)).run P w=.ok (.bool (m != n)) w:=by
 show Sem.run P (do pure (Value.bool (!(← Op.equal t (.bool m) (.bool n)))):Sem Value) w=_;rw [Sem.run_bind,run_equal_bool hu];rfl
theorem sound_bin (h:SimW G X F σ (a::acts) w) {op:BinOp} {t t':TypeId} {x y:Operand} {x' y':Ix} (ho:o.op=.binOp op t x y t') (hx:ixOk x x'=true) (hy:ixOk y y'=true)
  {bo:Bool} (ht:bo=true→P.underlying t=some .bool)
  (he:effK σ b (.bin bo op x' y') K):∃ E,K E∧Outs P G σ acts a o w E:=by
 simp only [effK] at he;split at he
 ·rename_i k m k' n hxx hyy;have hv:=h.ev1 hx (by rw [hxx];simp);have hm:=h.ev1 hy (by rw [hyy];simp);rw [hxx] at hv;rw [hyy] at hm;obtain ⟨rfl,he⟩:=he;obtain ⟨p,v,hK,hr,hrun⟩:=run_binI (P:=P) (w:=w) (M:=Mut X F) (X:=X) (t:=t) he;refine ⟨_,hK,.quiet h (v:=v) ?_ hr⟩;simp [execOp,ho,hv.i_inv,hm.i_inv,run_eqGuard_int,hrun]
 ·rename_i m n hxx hyy;have hv:=h.ev1 hx (by rw [hxx];simp);have hm:=h.ev1 hy (by rw [hyy];simp);rw [hxx] at hv;rw [hyy] at hm;obtain ⟨hbo,he⟩:=he;have hu:=ht hbo;split at he
  ·refine ⟨_,he,.quiet h (v:=.bool (m==n)) ?_ .b⟩;simp [execOp,ho,hv.b_inv,hm.b_inv,run_eqGuard_bool,run_eql_bool hu]
  ·refine ⟨_,he,.quiet h (v:=.bool (m != n)) ?_ .b⟩;simp [execOp,ho,hv.b_inv,hm.b_inv,run_eqGuard_bool,run_neq_bool hu]
  ·exact he.elim
 ·exact he.elim
theorem sound_not (h:SimW G X F σ (a::acts) w) {t:TypeId} {x:Operand} {y:Ix} (ho:o.op=.unOp .not t x) (hx:ixOk x y=true)
  (he:effK σ b (.not y) K):∃ E,K E∧Outs P G σ acts a o w E:=by
 simp only [effK] at he;split at he
 ·rename_i q hy;have hv:=h.ev1 hx (by rw [hy];simp);rw [hy] at hv;exact ⟨_,he,.quiet h (v:=.bool (!q)) (by simp [execOp,ho,hv.b_inv,Op.unary]) .b⟩
 ·exact he.elim
theorem sound_neg (h:SimW G X F σ (a::acts) w) {t:TypeId} {x:Operand} {y:Ix} (ho:o.op=.unOp .neg t x) (hx:ixOk x y=true)
  (he:effK σ b (.neg y) K):∃ E,K E∧Outs P G σ acts a o w E:=by
 simp only [effK] at he;split at he
 ·rename_i k n hy;have hv:=h.ev1 hx (by rw [hy];simp);rw [hy] at hv;exact ⟨_,he,.quiet h (v:=.int k (k.wrap (0-n))) (by simp [execOp,ho,hv.i_inv,Op.unary,Op.intArith]) .i⟩
 ·exact he.elim
theorem sound_conv (h:SimW G X F σ (a::acts) w) {s t:TypeId} {x:Operand} {y:Ix} {k:IntKind} {u:TypeDesc} (ho:o.op=.convert s t x) (hx:ixOk x y=true)
  (hs:P.underlying s=some u) (ht:P.underlying t=some (.int k)) (he:effK σ b (.conv k y) K):∃ E,K E∧Outs P G σ acts a o w E:=by
 simp only [effK] at he;split at he
 ·rename_i k' n hy;have hv:=h.ev1 hx (by rw [hy];simp);rw [hy] at hv;refine ⟨_,he,.quiet h (v:=.int k (k.wrap n)) ?_ .i⟩;simp [execOp,ho,hv.i_inv,convert,underlying,hs,ht,Conv.intToInt]
 ·exact he.elim
theorem sound_mn (h:SimW G X F σ (a::acts) w) {x y:Operand} {x' y':Ix} {ts:Array TypeId} (ho:o.op=.call { callee:=.builtin .min,args:=#[x,y],argTypes:=ts }) (hx:ixOk x x'=true) (hy:ixOk y y'=true)
  (he:effK σ b (.mn x' y') K):∃ E,K E∧Outs P G σ acts a o w E:=by
 simp only [effK] at he;split at he
 ·rename_i k m k' n hxx hyy;have hv:=h.ev1 hx (by rw [hxx];simp);have hm:=h.ev1 hy (by rw [hyy];simp);rw [hxx] at hv;rw [hyy] at hm;refine ⟨_,he,.quiet h (v:=.int k (if n<m then n else m)) ?_ .i⟩;simp [execOp,ho,resolve,invoke,builtin,hv.i_inv,hm.i_inv,Builtin.min_,Builtin.min2]
 ·exact he.elim
theorem sound_mx (h:SimW G X F σ (a::acts) w) {x y:Operand} {x' y':Ix} {ts:Array TypeId} (ho:o.op=.call { callee:=.builtin .max,args:=#[x,y],argTypes:=ts }) (hx:ixOk x x'=true) (hy:ixOk y y'=true)
  (he:effK σ b (.mx x' y') K):∃ E,K E∧Outs P G σ acts a o w E:=by
 simp only [effK] at he;split at he
 ·rename_i k m k' n hxx hyy;have hv:=h.ev1 hx (by rw [hxx];simp);have hm:=h.ev1 hy (by rw [hyy];simp);rw [hxx] at hv;rw [hyy] at hm;refine ⟨_,he,.quiet h (v:=.int k (if n>m then n else m)) ?_ .i⟩;simp [execOp,ho,resolve,invoke,builtin,hv.i_inv,hm.i_inv,Builtin.max_,Builtin.max2]
 ·exact he.elim
theorem sound_ext (h:SimW G X F σ (a::acts) w) {i:Nat} {x:Operand} {y:Ix} (ho:o.op=.extract x i) (hx:ixOk x y=true)
  (he:effK σ b (.ext i y) K):∃ E,K E∧Outs P G σ acts a o w E:=by
 simp only [effK] at he;split at he
 ·rename_i l hy;have hv:=h.ev hx;rw [hy] at hv;obtain ⟨vs,e1,hl,hc⟩:=hv;obtain ⟨z,hz,hK⟩:=he;have hi:i<vs.length:=by have:=(List.getElem?_eq_some_iff.1 hz).1;omega
  have hi2:=List.getElem?_eq_getElem hi;refine ⟨_,hK,.quiet h (v:=vs[i]) ?_ (hc i z _ hz hi2)⟩;simp [execOp,ho,e1,Instr.extract,hi2]
 ·exact he.elim
theorem evs_rel (h:SimW G X F σ (a::acts) w):∀ {l:List Operand} {m:List Ix},(∀ p∈evs σ m,p≠.un)→l.length=m.length→(∀ (j:Nat) (x:Operand) (y:Ix),l[j]? = some x→m[j]? = some y→ixOk x y=true) →
  RCs w (Mut X F) X (evs σ m) (l.map a.eval) []
 | [],[],_,_,_=>RCs.nil
 | x::l,y::m,hn,hl,hx=>by
  have h1:=h.ev1 (hx 0 x y rfl rfl) (hn _ (by simp [evs]));have h2:=evs_rel h (l:=l) (m:=m) (fun p hp=>hn p (by simp [evs,hp])) (by simpa using hl) (fun j x y hxx hyy=>hx (j+1) x y (by simpa using hxx) (by simpa using hyy));have h3:=RCs.cons h1 h2;rw [List.append_nil] at h3;exact h3
end
section
variable {P:Program} {G:Fr} {X:Ctx} {F:Nat→List Nat} {σ:St} {a:Act} {acts:List Act} {w:World} {M:Nat→Prop} {o:Oper} {b:Nat} {K:Eff→Prop}
theorem Kept.alloc {w0 w:World} {own:Nat→Prop} {wins:List (Nat×Nat×Nat)} (h:Kept w0 w own wins) (x:Obj):Kept w0 (w.alloc x) own wins where
 os:=h.os
 tape:=h.tape
 output:=h.output
 size:=by have:=h.size;simp;omega
 old:=fun g hg hn hw=>(heap_alloc_old w x g (Nat.lt_of_lt_of_le hg h.size)).trans (h.old g hg hn hw)
 win:=fun y hy=>by
  obtain ⟨c0,ty,fz,c,h1,h2,h3,h4⟩:=h.win y hy;refine ⟨c0,ty,fz,c,h1,?_,h3,h4⟩;rw [heap_alloc_old];exact h2;exact (Array.getElem?_eq_some_iff.1 h2).1
theorem Kept.drew {w0 w:World} {own:Nat→Prop} {wins:List (Nat×Nat×Nat)} (h:Kept w0 w own wins):Kept w0 w.drew own wins :=
 ⟨h.os,h.tape,h.output,h.size,h.old,h.win⟩
theorem SimW.not_win (h:SimW G X F σ acts w) {id:Nat} (hf:X.H id=.fresh) (x:Nat×Nat×Nat):G.wins[id]? ≠ some x:=by
 intro e;obtain ⟨B,hB,_⟩:=h.win id x e;rw [hf] at hB;cases hB
theorem SimW.newBlk (h:SimW G X F σ acts w) {id:Nat} (hf:σ.slot id=.fresh) (B:Blk) (xs:List Value) (e:TypeId) (hk:∀ c∈B.l,c.length=B.k) (hc:RCs w (Mut X F) X B.l.flatten xs [])
  (hkd:B.kd=0∧B.l.length≤maxLen∨B.kd≠0∧B.l.length=1) :
  SimW G (X.upd id (.live B) (some (w.heap.size,0)) B.l.length) (upd F id []) (σ.setSlot id (.live B)) acts (w.alloc (.cells xs.toArray e)):=by
 have hf':X.H id=.fresh:=by rw [h.hH];exact hf
 have hnew:=heap_alloc_new w (.cells xs.toArray e);refine h.one id (.live B) _ _ [] (by simp) (fun B' _=>.inl hf') (fun B' e g hg => ?_) (fun B' e=>by simp) (by simp) (fun g hg _=>heap_alloc_old w _ g hg) (h.kept.alloc _) (fun B' e hX hM => ?_) (fun x hx=>(h.not_win hf' x hx).elim)
 ·simp at hg;subst hg;exact ⟨by simp,.inr (Nat.le_refl _)⟩
 ·injection e with e;subst e;have hlen:xs.length=B.l.length*B.k:=by rw [← hc.1,flatten_len _ hk]
  refine ⟨hk,xs,hc.frame (by simp) (fun g hg _=>heap_alloc_old w _ g hg) hM hX,?_⟩;rcases hkd with ⟨h0,hm⟩|⟨h0,h1⟩
  ·refine .inl ⟨h0,e,hlen,.inr ⟨w.heap.size,B.l.length,xs.toArray,?_,Nat.zero_le _,hnew,Nat.le_refl _,hm,by simp [hlen],by rw [← hlen];simp⟩⟩;simp [Ctx.upd,upd_same,baseOf]
  ·refine .inr ⟨h0,(w.heap.size,0),by simp [Ctx.upd,upd_same],h1,fun j u hu => ?_⟩;rw [add_baseOf];refine ⟨?_,frozen_of_row _ _ _ _ _ hnew⟩;rw [cell_of_row _ _ _ _ _ _ hnew];simpa using hu
theorem newRef {id:Nat} {B:Blk} {A:Option (Nat×Nat)} (h0:B.kd=0) (w':World) (M':Nat→Prop) :
  RC w' M' (X.upd id (.live B) A B.l.length) (.ref id 0 B.l.length B.l.length) (.slice (A.map baseOf) B.l.length B.l.length) []:=by
 refine .ref (by simp [Ctx.upd,upd_same]) (fun B' hB' => ?_) ⟨_,_,rfl⟩;obtain rfl:B=B':=by simpa [Ctx.upd,upd_same] using hB'
 refine ⟨Nat.le_refl _,fun _=>⟨h0,by omega,_,_,rfl,Nat.le_refl _,fun _=>by simp [Ctx.upd,upd_same],fun _ => ?_⟩⟩;simp only [Ctx.upd,upd_same,Nat.zero_mul];rfl
theorem newPtr {id:Nat} {B:Blk} {x:Nat×Nat} {C:Nat} (h1:B.l.length=1) (w':World) (M':Nat→Prop) :
  RC w' M' (X.upd id (.live B) (some x) C) (.ptr id 1 0 0) (.pointer (some (baseOf x))) []:=by
 refine .ptr (by simp [Ctx.upd,upd_same]) (fun B' hB' => ?_) ⟨_,rfl⟩;obtain rfl:B=B':=by simpa [Ctx.upd,upd_same] using hB'
 refine ⟨by omega,fun _=>⟨by omega,x,by simp [Ctx.upd,upd_same],?_⟩⟩;simp only [Nat.zero_mul];rfl
theorem sound_box (h:SimW G X F σ (a::acts) w) {t:TypeId} {x:Operand} {y:Ix} (ho:o.op=.box t x) (hx:ixOk x y=true)
  (he:effK σ b (.box y) K):∃ E,K E∧Outs P G σ acts a o w E:=by
 simp only [effK] at he;obtain ⟨hf,he⟩:=he;split at he
 ·rename_i c hc;obtain ⟨xs,hv,hr⟩:=h.cells hx hc;have hs:=h.newBlk hf ⟨1,c.length,[],[c]⟩ xs t (by simp) (by simpa using hr) (.inr ⟨by simp,rfl⟩);refine ⟨_,he,.pointer (some ⟨w.heap.size,0,none⟩),w.alloc (.cells xs.toArray t),.inl ?_,_,_,hs,?_⟩
  ·simp [execOp,ho,Instr.box,newVar,newRow,hv]
  ·exact newPtr (x:=(w.heap.size,0)) (by rfl) _ _
 ·exact he.elim
theorem sound_alloc (h:SimW G X F σ (a::acts) w) {t:TypeId} {i:TypeInfo} {z:Value} {zs:List PV} (ho:o.op=.alloc t) (hi:P.info? t=some i) (hz:i.zero=some z) (hzs:cellsOk z.cells.toList zs=true)
  (he:effK σ b (.alloc zs) K):∃ E,K E∧Outs P G σ acts a o w E:=by
 simp only [effK] at he;obtain ⟨hf,he⟩:=he;have hs:=h.newBlk hf ⟨1,zs.length,[],[zs]⟩ z.cells.toList t (by simp) (by simpa using cellsOk_rel hzs) (.inr ⟨by simp,rfl⟩);refine ⟨_,he,.pointer (some ⟨w.heap.size,0,none⟩),w.alloc (.cells z.cells.toList.toArray t),.inl ?_,_,_,hs,?_⟩
 ·simp [execOp,ho,Instr.alloc,newVar,newRow,zeroValue,typeInfo,hi,hz]
 ·exact newPtr (x:=(w.heap.size,0)) (by rfl) _ _
theorem made_flatten (zs:Array Value) (n:Nat):(madeCells zs (n*zs.size)).toList=(List.replicate n zs.toList).flatten:=by
 unfold madeCells;have hk:∀ c∈List.replicate n zs.toList,c.length=zs.size:=by
  intro c hc;rw [List.eq_of_mem_replicate hc];simp
 have hfl:=flatten_len _ hk;apply List.ext_getElem?;intro i;by_cases hi:i<n*zs.size
 ·have h0:0<zs.size:=by
   rcases Nat.eq_zero_or_pos zs.size with h|h
   ·rw [h] at hi;simp at hi
   ·exact h
  have hm:=Nat.mod_lt i h0;have hd:i/zs.size*zs.size+i % zs.size=i:=by have:=Nat.div_add_mod i zs.size;rw [Nat.mul_comm] at this;exact this
  have hdn:i/zs.size<n:=Nat.div_lt_of_lt_mul (by rw [Nat.mul_comm];exact hi);have hg:=flatten_get _ hk (i/zs.size) (i % zs.size) hm;rw [hd] at hg;rw [hg];simp [hi,hdn,hm]
 ·rw [List.getElem?_eq_none (by simp;omega),List.getElem?_eq_none (by rw [hfl];simp;omega)]
theorem sound_mks (h:SimW G X F σ (a::acts) w) {t e:TypeId} {i:TypeInfo} {z:Value} {x:Operand} {y:Ix} {k bytes:Nat} {zs:List PV} (ho:o.op=.makeSlice t x x) (hx:ixOk x y=true)
  (ht:P.underlying t=some (.slice e)) (hi:P.info? e=some i) (hk:i.size=k) (hby:i.bytes=bytes) (hz:i.zero=some z) (hzs:cellsOk z.cells.toList zs=true) (hzk:zs.length=k)
  (he:effK σ b (.mks k bytes zs y) K):∃ E,K E∧Outs P G σ acts a o w E:=by
 simp only [effK] at he;obtain ⟨hf,he⟩:=he;split at he
 ·rename_i n hy;have hv:=h.ev1 hx (by rw [hy];simp);rw [hy] at hv;obtain ⟨h0,h1,h2,hK⟩:=he;obtain ⟨m,rfl⟩:=Int.eq_ofNat_of_zero_le h0;rw [Int.toNat_natCast] at h1 h2 hK;have hcr:=cellsOk_rel (w:=w) (M:=Mut X F) (X:=X) hzs;have hzl:z.cells.size=k:=by have:=hcr.1;rw [hzk] at this;simpa using this.symm
  have hcs:RCs w (Mut X F) X (List.replicate m zs).flatten (List.replicate m z.cells.toList).flatten []:=by
   clear hK h1 h2 hy hv h0;induction m with
   | zero=>exact RCs.nil
   | succ m ih=>simpa [List.replicate_succ] using hcr.append ih
  have hs:=h.newBlk hf ⟨0,k,[],List.replicate m zs⟩ _ e (by intro c hc;rw [List.eq_of_mem_replicate hc];exact hzk) hcs (.inl ⟨rfl,by simpa [maxLen] using h2⟩);refine ⟨_,hK,.slice (some ⟨w.heap.size,0,none⟩) m m,w.alloc (.cells (List.replicate m z.cells.toList).flatten.toArray e),.inl ?_,_,_,hs,?_⟩
  ·have hb2:(i.bytes:Int)*(m:Int)≤281474976710656:=by
    have:(i.bytes:Int)*(m:Int)=((m*i.bytes:Nat):Int):=by rw [Int.natCast_mul,Int.mul_comm]
    rw [this,hby];omega
   have hrun:=run_make (P:=P) w t e i z ht hi hz .i64 .i64 m m (by omega) (Int.le_refl _) hb2 (by omega);have hrow:madeCells z.cells ((m:Int).toNat*i.size)=(List.replicate m z.cells.toList).flatten.toArray:=by
    rw [← made_flatten,Int.toNat_natCast,hk,hzl]
   rw [hrow] at hrun;simp [execOp,ho,hv.i_inv,hrun]
  ·have:=newRef (X:=X) (id:=b) (B:=⟨0,k,[],List.replicate m zs⟩) (A:=some (w.heap.size,0)) rfl (w.alloc (.cells (List.replicate m z.cells.toList).flatten.toArray e)) (Mut (X.upd b (.live ⟨0,k,[],List.replicate m zs⟩) (some (w.heap.size,0)) (List.replicate m zs).length) (upd F b []));simpa [RVR,R1R,baseOf] using this
 ·exact he.elim
end
section
variable {P:Program} {G:Fr} {X:Ctx} {F:Nat→List Nat} {σ:St} {a:Act} {acts:List Act} {w:World} {M:Nat→Prop} {o:Oper} {b:Nat} {K:Eff→Prop}
theorem RCs.splice {ps qs:List PV} {xs ys:List Value} {pos:Nat} (h:RCs w M X ps xs []) (k:RCs w M X qs ys []) (hp:pos+qs.length≤ps.length):RCs w M X (splice ps pos qs) (splice xs pos ys) []:=by
 refine .of_nofp (by rw [splice_len hp,splice_len (by rw [← h.1,←k.1];exact hp)];exact h.1) fun j p u hpj huj => ?_
 rw [splice_get hp] at hpj;rw [splice_get (by rw [← h.1,←k.1];exact hp)] at huj;rw [← k.1] at huj;split at hpj
 ·rename_i hr;rw [if_pos hr] at huj;exact k.get_nofp _ p u hpj huj
 ·rename_i hr;rw [if_neg hr] at huj;exact h.get_nofp _ p u hpj huj
theorem foldl_set_toList (off:Nat):∀ (l:List Value) (i:Nat) (cs:Array Value),off+i+l.length≤cs.size →
  ((l.zipIdx i).foldl (fun (cs:Array Value) (x:Value×Nat)=>cs.setIfInBounds (off+x.2) x.1) cs).toList=AS.splice cs.toList (off+i) l
 | [],i,cs,_=>by simp [AS.splice]
 | v::l,i,cs,h=>by
  simp only [List.length_cons] at h;simp only [List.zipIdx_cons,List.foldl_cons];rw [foldl_set_toList off l (i+1) _ (by simp;omega)];simp only [Array.toList_setIfInBounds];apply List.ext_getElem?;intro j;rw [splice_get (by simp;omega),splice_get (by simp;omega)];simp only [List.length_cons];by_cases h1:off+(i+1)≤j∧j<off+(i+1)+l.length
  ·rw [if_pos h1,if_pos (by omega)];rw [show j-(off+i)=(j-(off+(i+1)))+1 by omega,List.getElem?_cons_succ]
  ·rw [if_neg h1,List.getElem?_set];by_cases h2:off+i=j
   ·rw [if_pos h2,if_pos (by simp;omega),if_pos (by omega)];rw [show j-(off+i)=0 by omega];rfl
   ·rw [if_neg h2,if_neg (by omega)]
theorem fill_fold (cells:Array Value) (l:List Value) (off:Nat) (h:off+l.length≤cells.size) :
  (l.toArray.zipIdx.foldl (fun (cs:Array Value) (x:Value×Nat)=>cs.setIfInBounds (off+x.2) x.1) cells)=(AS.splice cells.toList off l).toArray:=by
 apply Array.toList_inj.1;have:=foldl_set_toList off l 0 cells (by omega);rw [← Array.foldl_toList];simpa using this
def partsOk (place:Nat→Option (Nat×Nat)):List (Nat×Operand)→List (Nat×Nat×Ix)→Bool
 | [],[]=>true
 | (i,x)::l,(off,n,y)::m=>(place i==some (off,n))&&ixOk x y&&partsOk place l m
 | _,_=>false
theorem fill_parts (h:SimW G X F σ (a::acts) w) {place:Nat→Option (Nat×Nat)}:∀ {ops:List (Nat×Operand)} {ps:List (Nat×Nat×Ix)} {zs:List PV} {xs:List Value} {K:List PV→Prop},
  partsOk place ops ps=true→setParts zs σ ps K→RCs w (Mut X F) X zs xs [] →
  ∃ l xs',Instr.fill place xs.toArray (ops.map fun y=>(y.1,a.eval y.2))=some xs'.toArray∧RCs w (Mut X F) X l xs' []∧K l
 | [],[],zs,xs,K,_,hk,hr=>⟨zs,xs,rfl,hr,hk⟩
 | [],_::_,_,_,_,hp,_,_=>by simp [partsOk] at hp
 | _::_,[],_,_,_,hp,_,_=>by simp [partsOk] at hp
 | (i,x)::ops,(off,n,y)::ps,zs,xs,K,hp,hk,hr=>by
  simp only [partsOk,bae,beq_iff_eq] at hp;obtain ⟨c,hc,hcl,hle,hk⟩:=hk;obtain ⟨cs,hcs,hrc⟩:=h.cells hp.1.2 hc;have hcl2:cs.length=n:=by rw [← hrc.1];exact hcl
  obtain ⟨l,xs',h1,h2,h3⟩:=fill_parts h hp.2 hk (hr.splice hrc (by omega));refine ⟨l,xs',?_,h2,h3⟩;simp only [List.map_cons,Instr.fill,hp.1.1,hcs];rw [if_neg (by simp [hcl2,←hr.1];omega)];rw [show (cs.toArray.zipIdx.foldl (fun cs x=>match x with|(c,j)=>cs.setIfInBounds (off+j) c) xs.toArray)=(AS.splice xs off cs).toArray from fill_fold xs.toArray cs off (by simp [hcl2,←hr.1];omega)];exact h1
theorem sound_build (h:SimW G X F σ (a::acts) w) {t:TypeId} {it:TypeInfo} {z:Value} {fs:Array Field} {places:List (Nat×Nat)} {parts:Array (Nat×Operand)} {zs:List PV} {ps:List (Nat×Nat×Ix)} (ho:o.op=.build t parts)
  (hit:P.info? t=some it) (hu:P.underlying t=some (.struct fs)) (hz:it.zero=some z) (hpl:fs.toList.mapM (fun f=>(P.info? f.type).map fun i=>(f.offset,i.size))=some places)
  (hzs:cellsOk z.cells.toList zs=true) (hp:partsOk (places.toArray[·]?) parts.toList ps=true)
  (he:effK σ b (.build zs ps) K):∃ E,K E∧Outs P G σ acts a o w E:=by
 simp only [effK] at he;obtain ⟨l,xs,h1,h2,h3⟩:=fill_parts h hp he (cellsOk_rel hzs);refine ⟨_,h3,.quiet h (v:=.agg xs.toArray) ?_ ⟨xs,rfl,h2⟩⟩;have hb:P.built t (parts.map fun y=>(y.1,a.eval y.2)).toList=some xs.toArray:=by
  unfold Program.built;simp only [hit,hu,hz,hpl];simpa using h1
 have:=run_build (P:=P) w t _ _ hb;simp [execOp,ho,this]
def elemsOk:List (Nat×Operand)→List (Nat×Ix)→Bool
 | [],[]=>true
 | (i,x)::l,(j,y)::m=>(i==j)&&ixOk x y&&elemsOk l m
 | _,_=>false
theorem fill_elems (h:SimW G X F σ (a::acts) w) {k:Nat}:∀ {ops:List (Nat×Operand)} {ps:List (Nat×Ix)} {l:List (List PV)} {xs:List Value} {K:List (List PV)→Prop},
  elemsOk ops ps=true→setElems k l σ ps K→(∀ c∈l,c.length=k)→RCs w (Mut X F) X l.flatten xs [] →
  ∃ l' xs',Instr.fill (fun i=>some (i*k,k)) xs.toArray (ops.map fun y=>(y.1,a.eval y.2))=some xs'.toArray∧RCs w (Mut X F) X l'.flatten xs' []∧(∀ c∈l',c.length=k)∧l'.length=l.length∧K l'
 | [],[],l,xs,K,_,hk,hl,hr=>⟨l,xs,rfl,hr,hl,rfl,hk⟩
 | [],_::_,_,_,_,hp,_,_,_=>by simp [elemsOk] at hp
 | _::_,[],_,_,_,hp,_,_,_=>by simp [elemsOk] at hp
 | (i,x)::ops,(j,y)::ps,l,xs,K,hp,hk,hl,hr=>by
  simp only [elemsOk,bae,beq_iff_eq] at hp;obtain ⟨⟨rfl,hxy⟩,hp⟩:=hp;obtain ⟨c,hc,hcl,hil,hk⟩:=hk;obtain ⟨cs,hcs,hrc⟩:=h.cells hxy hc;have hcl2:cs.length=k:=by rw [← hrc.1];exact hcl
  have hfl:=flatten_len l hl;have hle:i*k+k≤l.length*k:=by rw [← Nat.succ_mul];exact Nat.mul_le_mul_right _ hil
  have hl':∀ c'∈l.set i c,c'.length=k:=by
   intro c' hc';rcases List.mem_or_eq_of_mem_set hc' with h1|rfl
   ·exact hl _ h1
   ·exact hcl
  have hsp:(l.set i c).flatten=AS.splice l.flatten (i*k) c:=by
   have hx:=List.getElem?_eq_getElem hil;have h0:=flatten_splice l hl i 0 _ c hx (by omega);have hc0:AS.splice l[i] 0 c=c:=by
    have:l[i].length=k:=hl _ (List.getElem_mem _);simp [AS.splice];omega
   rw [hc0] at h0;simpa using h0
  obtain ⟨l',xs',h1,h2,h3,h4,h5⟩:=fill_elems h hp hk hl' (by rw [hsp];exact hr.splice hrc (by rw [hfl];omega));refine ⟨l',xs',?_,h2,h3,by simpa using h4,h5⟩;simp only [List.map_cons,Instr.fill,hcs];have hxl:xs.length=l.length*k:=by rw [← hr.1];exact hfl
  rw [if_neg (by simp [hcl2];omega)];rw [show (cs.toArray.zipIdx.foldl (fun cs x=>match x with|(c,j)=>cs.setIfInBounds (i*k+j) c) xs.toArray)=(AS.splice xs (i*k) cs).toArray from fill_fold xs.toArray cs (i*k) (by simp;omega)];exact h1
theorem sound_bsl (h:SimW G X F σ (a::acts) w) {t e:TypeId} {i:TypeInfo} {z:Value} {parts:Array (Nat×Operand)} {k n:Nat} {zs:List PV} {ps:List (Nat×Ix)} (ho:o.op=.buildSlice t n parts)
  (ht:P.underlying t=some (.slice e)) (hi:P.info? e=some i) (hk:i.size=k) (hz:i.zero=some z) (hzs:cellsOk z.cells.toList zs=true) (hzk:zs.length=k) (hn:n*k≤16777216)
  (hp:elemsOk parts.toList ps=true) (hnm:n≤maxLen)
  (he:effK σ b (.bsl k n zs ps) K):∃ E,K E∧Outs P G σ acts a o w E:=by
 simp only [effK] at he;obtain ⟨hf,he⟩:=he;have hcr:=cellsOk_rel (w:=w) (M:=Mut X F) (X:=X) hzs;have hzl:z.cells.size=k:=by have:=hcr.1;rw [hzk] at this;simpa using this.symm
 have hcs:∀ m:Nat,RCs w (Mut X F) X (List.replicate m zs).flatten (List.replicate m z.cells.toList).flatten []:=by
  intro m;induction m with
  | zero=>exact RCs.nil
  | succ m ih=>simpa [List.replicate_succ] using hcr.append ih
 obtain ⟨l,xs,h1,h2,h3,h4,h5⟩:=fill_elems h hp he (by intro c hc;rw [List.eq_of_mem_replicate hc];exact hzk) (hcs n);simp only [List.length_replicate] at h4;have hs:=h.newBlk hf ⟨0,k,[],l⟩ xs e h3 h2 (.inl ⟨rfl,by simpa [h4] using hnm⟩);refine ⟨_,h5,.slice (some ⟨w.heap.size,0,none⟩) n n,w.alloc (.cells xs.toArray e),.inl ?_,_,_,hs,?_⟩
 ·have hfill:=h1;have hmade:=made_flatten z.cells n;rw [hzl] at hmade;have hmade':madeCells z.cells (n*k)=(List.replicate n z.cells.toList).flatten.toArray:=by rw [← hmade]
  have hz':(zeroValue e).run P w=.ok z w:=by simp [zeroValue,typeInfo,hi,hz]
  have hn':¬ (16777216<n*k):=by omega
  by_cases h0:n*k=0
  ·have hnil:(List.replicate n z.cells.toList).flatten.toArray=#[]:=by rw [← hmade',h0];simp [madeCells]
   rw [hnil] at hfill;simp [execOp,ho,Instr.buildSlice,underlying,ht,sizeOf,typeInfo,hi,hk,h0,show Array.range 0=#[] from rfl,hfill,newRow]
  ·rw [← hmade'] at hfill;unfold madeCells at hfill;simp [execOp,ho,Instr.buildSlice,underlying,ht,sizeOf,typeInfo,hi,hk,h0,hn',hz',hfill,newRow]
 ·have:=newRef (X:=X) (id:=b) (B:=⟨0,k,[],l⟩) (A:=some (w.heap.size,0)) rfl (w.alloc (.cells xs.toArray e)) (Mut (X.upd b (.live ⟨0,k,[],l⟩) (some (w.heap.size,0)) l.length) (upd F b []));simp only [h4] at this;simpa [RVR,R1R,baseOf,h4] using this
end
section
variable {P:Program} {G:Fr} {X:Ctx} {F:Nat→List Nat} {σ:St} {a:Act} {acts:List Act} {w:World} {M:Nat→Prop} {o:Oper} {b:Nat} {K:Eff→Prop}
theorem SimW.congr (h:SimW G X F σ acts w) {σ':St} (he:σ'.env=σ.env) (hs:σ'.sus=σ.sus) (hh:∀ id,σ'.slot id=σ.slot id):SimW G X F σ' acts w :=
 { h with hH:=fun id=>(h.hH id).trans (hh id).symm,envs:=by rw [he,hs];exact h.envs }
theorem setSlots_env:∀ (l:List (Nat×Slot)) (σ:St),(setSlots σ l).env=σ.env∧(setSlots σ l).sus=σ.sus
 | [],σ=>⟨rfl,rfl⟩
 | (i,s)::r,σ=>setSlots_env r (σ.setSlot i s)
theorem flatten_part {α:Type} (fps:List (List α)) (pos:Nat) (f:List α) (h:fps[pos]? = some f):∃ A B,fps.flatten=A++f++B∧(fps.set pos []).flatten=A++B∧∀ g:List α,(fps.set pos g).flatten=A++g++B:=by
 have hp:pos<fps.length:=(List.getElem?_eq_some_iff.1 h).1;have hv:fps[pos]=f:=(List.getElem?_eq_some_iff.1 h).2;have key:∀ g:List α,(fps.set pos g).flatten=(fps.take pos).flatten++g++(fps.drop (pos+1)).flatten:=by
  intro g;rw [List.set_eq_take_append_cons_drop,if_pos hp];simp
 refine ⟨(fps.take pos).flatten,(fps.drop (pos+1)).flatten,?_,by simpa using key [],key⟩;have:=key f;rw [← hv] at this;rw [List.set_getElem_self] at this;rw [hv] at this;exact this
theorem RC.own_inv {k:Nat} {l:List (List PV)} {v:Value} {fp:List Nat} (h:RC w M X (.vs true k l) v fp):∃ (e:TypeId) (xs:List Value) (fn:List Nat),w.ownsRow 0 e k v l.length xs∧(∀ c∈l,c.length=k)∧RCs w M X l.flatten xs fn∧fp=v.ownBlock.toList++fn:=by
 cases h with
 | own e hr hk hl hf hc=>exact ⟨e,_,_,hr,hk,⟨hl,_,hf,rfl,hc⟩,rfl⟩
theorem row_place {e:TypeId} {k n:Nat} {v:Value} {xs:List Value} (h:w.ownsRow 0 e k v n xs):∃ (A:Option (Nat×Nat)) (C:Nat),v=.slice (A.map baseOf) n C∧(A.map (·.1)).toList=v.ownBlock.toList∧n≤C:=by
 rcases h.2 with ⟨rfl,rfl⟩|⟨g,cap,cur,rfl,_,hg,hn,_⟩
 ·exact ⟨none,0,rfl,rfl,Nat.le_refl _⟩
 ·exact ⟨some (g,0),cap,rfl,rfl,hn⟩
theorem RC.fp_nil {p:PV} {v:Value} {fp:List Nat} (h:RC w M X p v fp) (hp:∀ k l,p≠.vs true k l):fp=[]:=by
 cases h<;>first|rfl|exact (hp _ _ rfl).elim
theorem ctx_le_two {X X1:Ctx} {id b:Nat} {B B1 Bb:Blk} (hne:id≠b) (hid:X.H id=.live B) (hb:X.H b=.fresh) (h1:X1.H id=.live B1) (h2:X1.H b=.live Bb) (h3:∀ i,i≠id→i≠b→X1.H i=X.H i∧X1.A i=X.A i∧X1.C i=X.C i)
  (hA:X1.A id=X.A id) (hC:X1.C id=X.C id) (hl:B.l.length=B1.l.length) (hk:B.k=B1.k) (hkd:B.kd=B1.kd) (ht:X1.τ=X.τ): X.Le X1:=by
 refine ⟨fun i e => ?_,fun i B' e => ?_,ht⟩
 ·by_cases hi:i=id
  ·subst hi;rw [h1] at e;cases e
  ·by_cases hj:i=b
   ·subst hj;exact hb
   ·rw [(h3 i hi hj).1] at e;exact e
 ·by_cases hi:i=id
  ·subst hi;rw [h1] at e;injection e with e;subst e
   exact .inr ⟨B,hid,.inr ⟨hl,hk,hkd,hA,hC⟩⟩
  ·by_cases hj:i=b
   ·subst hj;exact .inl hb
   ·obtain ⟨a1,a2,a3⟩:=h3 i hi hj;rw [a1] at e;exact .inr ⟨B',e,.inr ⟨rfl,rfl,rfl,a2,a3⟩⟩
theorem SimW.expose (h:SimW G X F σ acts w) {id e j b:Nat} {B:Blk} {c:List PV} {k:Nat} {l:List (List PV)} (hB:σ.slot id=.live B) (hc:B.l[e]? = some c) (hp:c[j]? = some (.vs true k l)) (hf:σ.slot b=.fresh) (ks:List (Nat×Nat)) :
  ∃ X1 F1,SimW G X1 F1 (setSlots σ [(id,.live { B with kids:=ks,l:=B.l.set e (c.set j (.ref b 0 l.length l.length)) }),(b,.live ⟨0,k,[],l⟩)]) acts w∧X.Le X1∧(∀ g,Mut X1 F1 g→Mut X F g) ∧
   X1.A id=X.A id ∧
   ∀ x,X.A id=some x→∃ u,w.cell? ((baseOf x).add (e*B.k+j))=some u∧RC w (Mut X1 F1) X1 (.ref b 0 l.length l.length) u []:=by
 have hid:X.H id=.live B:=by rw [h.hH];exact hB
 have hb:X.H b=.fresh:=by rw [h.hH];exact hf
 have hne:id≠b:=by intro e;subst e;rw [hid] at hb;cases hb
 obtain ⟨hk,xs,hcs,hrow⟩:=h.blk id B hid;obtain ⟨hll,fps,hfl,hFid,hrc⟩:=hcs;have hck:c.length=B.k:=hk c (List.mem_of_getElem? hc);have hj:j<B.k:=by have:=(List.getElem?_eq_some_iff.1 hp).1;omega
 have hpos:B.l.flatten[e*B.k+j]? = some (.vs true k l):=by rw [flatten_get B.l hk e j hj,hc];exact hp
 have hposl:e*B.k+j<xs.length:=by have:=(List.getElem?_eq_some_iff.1 hpos).1;omega
 obtain ⟨u,hu⟩:∃ u,xs[e*B.k+j]? = some u:=⟨_,List.getElem?_eq_getElem hposl⟩
 obtain ⟨f,hff⟩:∃ f,fps[e*B.k+j]? = some f:=⟨_,List.getElem?_eq_getElem (show e*B.k+j<fps.length by omega)⟩
 clear hposl;obtain ⟨pos,hpo⟩:∃ p,e*B.k+j=p:=⟨_,rfl⟩
 rw [hpo] at hpos hu hff ⊢;obtain ⟨ty,xs',fn,hr',hk',hrcs',hf'⟩:=(hrc pos _ u f hpos hu hff).own_inv;obtain ⟨A,C,huv,hAo,hnC⟩:=row_place hr';obtain ⟨Fa,Fb,hF1,hF2,hF3⟩:=flatten_part fps pos f hff
 let B1:Blk:={ B with kids:=ks,l:=B.l.set e (c.set j (.ref b 0 l.length l.length)) }
 let Bb:Blk:=⟨0,k,[],l⟩
 let X1:Ctx:=(X.upd id (.live B1) (X.A id) (X.C id)).upd b (.live Bb) A C
 let F1:Nat→List Nat:=upd (upd F id (Fa++Fb)) b fn
 have e1:X1.H id=.live B1:=by simp [X1,Ctx.upd,upd,hne]
 have e2:X1.H b=.live Bb:=by simp [X1,Ctx.upd,upd]
 have e3:∀ i,i≠id→i≠b→X1.H i=X.H i∧X1.A i=X.A i∧X1.C i=X.C i∧F1 i=F i:=by
  intro i h1 h2;simp [X1,F1,Ctx.upd,upd,h1,h2]
 have eA:X1.A id=X.A id:=by simp [X1,Ctx.upd,upd,hne]
 have eC:X1.C id=X.C id:=by simp [X1,Ctx.upd,upd,hne]
 have eAb:X1.A b=A:=by simp [X1,Ctx.upd,upd]
 have eCb:X1.C b=C:=by simp [X1,Ctx.upd,upd]
 have eF:F1 id=Fa++Fb:=by simp [F1,upd,hne]
 have eFb:F1 b=fn:=by simp [F1,upd]
 have hX:X.Le X1:=ctx_le_two hne hid hb e1 e2 (fun i h1 h2=>⟨(e3 i h1 h2).1,(e3 i h1 h2).2.1,(e3 i h1 h2).2.2.1⟩) eA eC (by simp [B1]) rfl rfl rfl;have hOb:Own X1 F1 b=f:=by simp only [Own,eAb,eFb,hAo,hf']
 have hOid:Own X1 F1 id=((X.A id).map (·.1)).toList++(Fa++Fb):=by simp only [Own,eA,eF]
 have hOold:Own X F id=((X.A id).map (·.1)).toList++(Fa++f++Fb):=by simp only [Own,hFid,hF1]
 have hOne:∀ i,i≠id→i≠b→Own X1 F1 i=Own X F i:=by intro i h1 h2;simp only [Own,(e3 i h1 h2).2.1,(e3 i h1 h2).2.2.2]
 have hbin:∀ g∈Own X1 F1 b,g∈Own X F id:=by intro g hg;rw [hOb] at hg;rw [hOold];simp [hg]
 have hidin:∀ g∈Own X1 F1 id,g∈Own X F id:=by
  intro g hg;rw [hOid] at hg;rw [hOold];simp only [lma] at hg ⊢;rcases hg with hg|hg|hg
  ·exact .inl hg
  ·exact .inr (.inl (.inl hg))
  ·exact .inr (.inr hg)
 have hM1:∀ g,Mut1 X1 F1 g→Mut1 X F g:=by
  rintro g ⟨i,B',hi,hg⟩;by_cases hi1:i=id
  ·subst hi1;exact ⟨_,B,hid,hidin g hg⟩
  ·by_cases hi2:i=b
   ·subst hi2;exact ⟨id,B,hid,hbin g hg⟩
   ·rw [(e3 i hi1 hi2).1] at hi;rw [hOne i hi1 hi2] at hg;exact ⟨i,B',hi,hg⟩
 have hM:∀ g,Mut X1 F1 g→Mut X F g:=fun g hg=>hg.imp (fun k=>k) (hM1 g)
 have hM':∀ g,g<w.heap.size→¬ Mut X F g→¬ Mut X1 F1 g:=fun g _ hn hm=>hn (hM g hm)
 have hnd:=h.nd id B hid;rw [hOold] at hnd;have href:RC w (Mut X1 F1) X1 (.ref b 0 l.length l.length) u []:=by
  refine .ref (by rw [e2];simp) (fun B' hB' => ?_) ⟨_,_,huv⟩;obtain rfl:Bb=B':=by rw [e2] at hB';injection hB'
  refine ⟨Nat.le_refl _,fun _=>⟨rfl,by simp [Bb],A.map baseOf,C,huv,hnC,fun _=>by rw [eAb,eCb];exact ⟨rfl,rfl⟩,fun _ => ?_⟩⟩;rw [eAb];simp only [Nat.zero_mul];rfl
 have hxu:∀ x,X.A id=some x→w.cell? ((baseOf x).add pos)=some u:=by
  intro x hx;rcases hrow with ⟨h0,e',hr⟩|⟨h0,y,hy,h1,hcell⟩
  ·exact ((cellsAt_of_row hr hx).2 pos u hu).1
  ·obtain rfl:y=x:=by rw [hx] at hy;exact (Option.some.inj hy).symm
   exact (hcell pos u hu).1
 refine ⟨X1,F1,?_,hX,hM,eA,fun x hx=>⟨u,hxu x hx,href⟩⟩;have hse:=setSlots_env [(id,Slot.live B1),(b,.live Bb)] σ;refine h.step (fun i => ?_) hX rfl hse.1 hse.2 (fun g hg=>.inl (hM1 g hg)) (fun g hg=>h.lt g (hM1 g hg)) (fun g _ _=>rfl) h.kept (fun i B' hi => ?_) (fun i B' hi => ?_) (fun i i' B' B'' hi hi' hii g hg hg' => ?_) (fun i x hx => ?_)
 ·simp only [setSlots,St.slot_setSlot];by_cases h2:i=b
  ·subst h2;simp [e2,Bb]
  ·by_cases h1:i=id
   ·subst h1;simp [e1,B1,h2]
   ·simp [h1,h2,(e3 i h1 h2).1,h.hH]
 ·by_cases h1:i=id
  ·subst h1;obtain rfl:B1=B':=by rw [e1] at hi;injection hi
   have hset:B1.l.flatten=B.l.flatten.set pos (.ref b 0 l.length l.length):=by
    have:=flatten_set B.l hk e j c (.ref b 0 l.length l.length) hc hj;rw [hpo] at this;exact this
   refine ⟨?_,xs,⟨by rw [hset];simpa using hll,fps.set pos [],by simpa using hfl,by rw [eF,hF2],fun q p' u' f' hp' hu' hf'' => ?_⟩,?_⟩
   ·intro c' hc';rcases List.mem_or_eq_of_mem_set hc' with h2|rfl
    ·exact hk _ h2
    ·simpa using hck
   ·rw [hset,List.getElem?_set] at hp';rw [List.getElem?_set] at hf'';by_cases hq:pos=q
    ·subst hq;rw [if_pos rfl] at hp' hf'';split at hp'
     ·split at hf''
      ·injection hp' with hp';injection hf'' with hf'';subst hp' hf'';obtain rfl:u=u':=by rw [hu] at hu';injection hu'
       exact href
      ·cases hf''
     ·cases hp'
    ·rw [if_neg hq] at hp' hf'';exact (hrc q p' u' f' hp' hu' hf'').frame (fun _ _=>rfl) (fun _ _ _=>rfl) hM' hX
   ·rcases hrow with ⟨h0,e',hr⟩|⟨h0,y,hy,h1,hcell⟩
    ·refine .inl ⟨h0,e',?_⟩;rw [eA,eC];simpa [B1] using hr
    ·exact .inr ⟨h0,y,by rw [eA];exact hy,by simpa [B1] using h1,hcell⟩
  ·by_cases h2:i=b
   ·subst h2;obtain rfl:Bb=B':=by rw [e2] at hi;injection hi
    refine ⟨hk',xs',?_,.inl ⟨rfl,ty,?_⟩⟩
    ·rw [eFb];exact hrcs'.frame (fun _ _=>rfl) (fun _ _ _=>rfl) hM' hX
    ·rw [eAb,eCb];rw [← huv];exact hr'
   ·rw [(e3 i h1 h2).1] at hi;rw [(e3 i h1 h2).2.2.2];exact (h.blk i B' hi).frame (fun _ _=>rfl) (fun _ _ _=>rfl) hM' hX (e3 i h1 h2).2.1 (e3 i h1 h2).2.2.1
 ·by_cases h1:i=id
  ·subst h1;rw [hOid];refine hnd.sublist ?_;refine List.Sublist.append (List.Sublist.refl _) ?_;rw [List.append_assoc];exact List.Sublist.append (List.Sublist.refl _) (List.sublist_append_right f Fb)
  ·by_cases h2:i=b
   ·subst h2;rw [hOb];refine hnd.sublist ?_;exact (List.sublist_append_of_sublist_left (List.sublist_append_right Fa f)).trans (List.sublist_append_right _ _)
   ·rw [hOne i h1 h2];rw [(e3 i h1 h2).1] at hi;exact h.nd i B' hi
 ·have disj:∀ g∈Own X1 F1 b,g∉Own X1 F1 id:=by
   intro g hg hg';rw [hOb] at hg;rw [hOid] at hg';have hnd':=hnd;simp only [List.nodup_append,lma] at hnd' hg';obtain ⟨_,⟨⟨n1,n2,n3⟩,n4,n5⟩,n6⟩:=hnd';rcases hg' with hg'|hg'|hg'
   ·exact n6 g hg' g (.inl (.inr hg)) rfl
   ·exact n3 g hg' g hg rfl
   ·exact n5 g (.inr hg) g hg' rfl
  have other:∀ i,i≠id→i≠b→∀ B',X1.H i=.live B'→∀ g∈Own X1 F1 i,g∉Own X F id:=by
   intro i h1 h2 B' hi g hg;rw [(e3 i h1 h2).1] at hi;rw [hOne i h1 h2] at hg;exact h.dj i id B' B hi hid h1 g hg
  by_cases i1:i=id
  ·subst i1;by_cases i2:i'=b
   ·subst i2;exact disj g hg' hg
   ·exact other i' (Ne.symm hii) i2 B'' hi' g hg' (hidin g hg)
  ·by_cases i2:i=b
   ·subst i2;by_cases i3:i'=id
    ·subst i3;exact disj g hg hg'
    ·exact other i' i3 (Ne.symm hii) B'' hi' g hg' (hbin g hg)
   ·by_cases i3:i'=id
    ·subst i3;exact other i i1 i2 B' hi g hg (hidin g hg')
    ·by_cases i4:i'=b
     ·subst i4;exact other i i1 i2 B' hi g hg (hbin g hg')
     ·rw [(e3 i i1 i2).1] at hi;rw [(e3 i' i3 i4).1] at hi';rw [hOne i i1 i2] at hg;rw [hOne i' i3 i4] at hg';exact h.dj i i' B' B'' hi hi' hii g hg hg'
 ·obtain ⟨B',hB',k1,k2,k3⟩:=h.win i x hx;by_cases h1:i=id
  ·subst h1;obtain rfl:B=B':=by rw [hid] at hB';injection hB'
   exact ⟨B1,e1,k1,by rw [eA];exact k2,k3⟩
  ·by_cases h2:i=b
   ·subst h2;rw [hb] at hB';cases hB'
   ·exact ⟨B',by rw [(e3 i h1 h2).1];exact hB',k1,by rw [(e3 i h1 h2).2.1];exact k2,k3⟩
end
section
variable {P:Program} {G:Fr} {X:Ctx} {F:Nat→List Nat} {σ:St} {a:Act} {acts:List Act} {w:World} {M:Nat→Prop} {o:Oper} {b:Nat} {K:Eff→Prop}
theorem run_storeCells_at (x:Nat×Nat) (ty:TypeId) (fz:Nat×Nat):∀ (vs:List Value) (i:Nat) (c:Array Value) (w:World),w.heap[x.1]? = some (.cells c ty fz) →
  (∀ j,i≤j→j<i+vs.length→w.frozen? ((baseOf x).add j)=false)→x.2+i+vs.length≤c.size→(∀ v∈vs,v.oneCell'=true) →
  (storeCells (baseOf x) vs i).run P w=.ok () (w.setRow x.1 (splice c.toList (x.2+i) vs).toArray)
 | [],i,c,w,hg,hf,hs,h1=>by
  have hc:splice c.toList (x.2+i) []=c.toList:=by simp [splice]
  have hh:(w.setRow x.1 c).heap=w.heap:=by
   have hlt:x.1<w.heap.size:=(Array.getElem?_eq_some_iff.1 hg).1;have hv:w.heap[x.1]=.cells c ty fz:=(Array.getElem?_eq_some_iff.1 hg).2;unfold World.setRow;apply Array.ext
   ·simp
   ·intro k h1 h2;simp only [Array.getElem_modify];split
    ·rename_i hk;subst hk;rw [hv]
    ·rfl
  have this:w.setRow x.1 c=w:=by
   have h0:w.setRow x.1 c={ w with heap:=(w.setRow x.1 c).heap }:=rfl;rw [h0,hh]
  rw [hc];simp only [storeCells,Sem.run_pure];rw [show c.toList.toArray=c from rfl,this]
 | v::vs,i,c,w,hg,hf,hs,h1=>by
  simp only [List.length_cons] at hs hf;have hfr:=hf i (Nat.le_refl _) (by omega);have hcell:w.cell? ((baseOf x).add i)=some (c[x.2+i]'(by omega)):=by
   rw [add_baseOf,cell_of_row w x.1 _ c ty fz hg,Array.getElem?_eq_getElem]
  have hst:(store ((baseOf x).add i) v).run P w=.ok () (w.setCell ((baseOf x).add i) v):=by
   rw [run_store P w _ v _ (h1 v (by simp)),hcell];simp [hfr]
  have hset:w.setCell ((baseOf x).add i) v=w.setRow x.1 (c.setIfInBounds (x.2+i) v):=by
   rw [add_baseOf];exact setCell_eq_setRow w x.1 (x.2+i) c ty fz v hg
  have hg':=setRow_heap w x.1 c (c.setIfInBounds (x.2+i) v) ty fz hg;have hrec:=run_storeCells_at x ty fz vs (i+1) (c.setIfInBounds (x.2+i) v) (w.setRow x.1 (c.setIfInBounds (x.2+i) v)) hg' (fun j hj1 hj2=>by
   have:=hf j (by omega) (by omega);rw [add_baseOf] at this ⊢;simp only [World.frozen?,hg',hg] at this ⊢;exact this) (by simp;omega) (fun v hv=>h1 v (by simp [hv]))
  simp only [storeCells,Sem.run_bind,hst,Result.andThen_ok,hset,hrec,setRow_setRow];congr 3;apply List.ext_getElem?;intro j;rw [splice_get (by simp;omega),splice_get (by simp;omega)];simp only [List.length_cons,Array.toList_setIfInBounds];by_cases h2:x.2+(i+1)≤j∧j<x.2+(i+1)+vs.length
  ·rw [if_pos h2,if_pos (by omega),show j-(x.2+i)=(j-(x.2+(i+1)))+1 by omega,List.getElem?_cons_succ]
  ·rw [if_neg h2,List.getElem?_set];by_cases h3:x.2+i=j
   ·rw [if_pos h3,if_pos (by simp;omega),if_pos (by omega),show j-(x.2+i)=0 by omega];rfl
   ·rw [if_neg h3,if_neg (by omega)]
def descAgg:TypeDesc→Bool
 | .struct _|.array .. => true
 | _=>false
theorem run_isAgg {t:TypeId} {d:TypeDesc} (ht:P.underlying t=some d):(isAgg t).run P w=.ok (descAgg d) w:=by
 simp only [isAgg,Sem.run_bind,underlying,run_program,Result.andThen_ok,ht];cases d<;>rfl
theorem SimW.at_ptr (h:SimW G X F σ (a::acts) w) {x:Operand} {y:Ix} (hx:ixOk x y=true) {id full e j:Nat} (hy:σ.ev1 y=.ptr id full e j) {B:Blk} (hB:σ.slot id=.live B) (hl:B.l.length=full) :
  e<full∧∃ z,X.A id=some z∧a.eval x=.pointer (some ((baseOf z).add (e*B.k+j)))∧X.H id=.live B:=by
 have hv:=h.ev1 hx (by rw [hy];simp);rw [hy] at hv;obtain ⟨ad,_,_,h1⟩:=hv.ptr_inv;have hid:X.H id=.live B:=by rw [h.hH];exact hB
 obtain ⟨_,h2⟩:=h1 B hid;obtain ⟨h3,z,h4,h5⟩:=h2 hl;exact ⟨h3,z,h4,h5,hid⟩
theorem thaw_nil_iff:∀ (l:List PV) (b:Nat),(thaw b l).2=[]→(thaw b l).1=l∧∀ p∈l,∀ k m,p≠.vs true k m
 | [],b,_=>⟨rfl,by simp⟩
 | p::r,b,h=>by
  by_cases hp:∃ k m,p=.vs true k m
  ·obtain ⟨k,m,rfl⟩:=hp;simp [thaw] at h
  ·have hstep:thaw b (p::r)=(p::(thaw b r).1,(thaw b r).2):=by
    cases p<;>try rfl
    rename_i q k m;cases q
    ·rfl
    ·exact (hp ⟨k,m,rfl⟩).elim
   rw [hstep] at h ⊢;obtain ⟨h1,h2⟩:=thaw_nil_iff r b h;refine ⟨by rw [h1],fun q hq k m => ?_⟩;rcases List.mem_cons.1 hq with rfl|hq
   ·exact fun e=>hp ⟨k,m,e⟩
   ·exact h2 q hq k m
theorem thaw_len:∀ (l:List PV) (b:Nat),(thaw b l).1.length=l.length
 | [],b=>rfl
 | p::r,b=>by
  unfold thaw;split<;>simp [thaw_len r]
theorem sound_ld1 (h:SimW G X F σ (a::acts) w) {t:TypeId} {d:TypeDesc} {x:Operand} {y:Ix} (ho:o.op=.load t x) (ht:P.underlying t=some d) (hd:descAgg d=false) (hx:ixOk x y=true)
  (he:effK σ b (.ld1 y) K):∃ E,K E∧Outs P G σ acts a o w E:=by
 have hrun:∀ (ad:Addr) (u:Value),a.eval x=.pointer (some ad)→w.cell? ad=some u→(execOp a.eval o).run P w=.ok (.value u) w:=by
  intro ad u hv hc;simp [execOp,ho,hv,Instr.loadAt,Instr.sureAddr,loadVar,run_isAgg ht,hd,hc]
 simp only [effK] at he;split at he
 ·rename_i id full e j hy;obtain ⟨B,hB,hl,c,p,hc,hp,he⟩:=blk_inv he;obtain ⟨h1,z,hz,hv,hid⟩:=h.at_ptr hx hy hB hl;by_cases hown:∃ k l,p=.vs true k l
  ·obtain ⟨k,l,rfl⟩:=hown;simp only at he;obtain ⟨hf,hK⟩:=he;obtain ⟨X1,F1,hs,hX,hM,hA,hcell⟩:=h.expose hB hc hp hf [];obtain ⟨u,hu,hr⟩:=hcell z hz;exact ⟨_,hK,u,w,.inl (hrun _ u hv hu),X1,F1,hs,hr⟩
  ·have hK:K { v:=.r (.one p),rd:=[id] }:=by
    cases p<;>try exact he
    rename_i q k l;cases q
    ·exact he
    ·exact (hown ⟨k,l,rfl⟩).elim
   have hBR:=h.blk id B hid;obtain ⟨xs,⟨hll,fps,hfl,hFid,hrc⟩,hcells⟩:=hBR.cells z hz;have hck:c.length=B.k:=hBR.1 c (List.mem_of_getElem? hc);have hj:j<B.k:=by have:=(List.getElem?_eq_some_iff.1 hp).1;omega
   have hpos:B.l.flatten[e*B.k+j]? = some p:=by rw [flatten_get B.l hBR.1 e j hj,hc];exact hp
   have hposl:e*B.k+j<xs.length:=by have:=(List.getElem?_eq_some_iff.1 hpos).1;omega
   have hu:=List.getElem?_eq_getElem hposl;have hff:=List.getElem?_eq_getElem (show e*B.k+j<fps.length by omega);have hr:=hrc _ p _ _ hpos hu hff;rw [hr.fp_nil (fun k l e=>hown ⟨k,l,e⟩)] at hr;exact ⟨_,hK,.quiet h (hrun _ _ hv (hcells _ _ hu).1) hr⟩
 ·rename_i l j hy;have hv:=h.ev1 hx (by rw [hy];simp);rw [hy] at hv;obtain ⟨ad,xs,e1,hl,hx2,hc⟩:=hv.rp_inv;obtain ⟨p,hp,hK⟩:=he;have hj:j<xs.length:=by have:=(List.getElem?_eq_some_iff.1 hp).1;omega
  have hu:=List.getElem?_eq_getElem hj;exact ⟨_,hK,.quiet h (hrun _ _ e1 (hx2 _ _ hu).2) (hc j p _ hp hu)⟩
 ·exact he.elim
theorem SimW.exposeAll:∀ (ps:List PV) {X:Ctx} {F:Nat→List Nat} {σ:St} (h:SimW G X F σ acts w) {id e j b:Nat} {B:Blk} {c:List PV} (hB:σ.slot id=.live B) (hc:B.l[e]? = some c) (hp:(c.drop j).take ps.length=ps)
  (hf:∀ y∈(thaw b ps).2,σ.slot y.1=.fresh) (ks:List (Nat×Nat)),
  ∃ X1 F1,SimW G X1 F1 (setSlots σ ((id,.live { B with kids:=ks,l:=B.l.set e (splice c j (thaw b ps).1) })::(thaw b ps).2)) acts w∧X.Le X1∧(∀ g,Mut X1 F1 g→Mut X F g)∧X1.A id=X.A id ∧
   ∀ x,X.A id=some x→∃ us:List Value,us.length=ps.length∧(∀ (i:Nat) (u:Value),us[i]? = some u→w.cell? ((baseOf x).add (e*B.k+j+i))=some u)∧RCs w (Mut X1 F1) X1 (thaw b ps).1 us []
 | [],X,F,σ,h,id,e,j,b,B,c,hB,hc,hp,hf,ks=>by
  have hid:X.H id=.live B:=by rw [h.hH];exact hB
  have hsp:splice c j []=c:=by simp [splice]
  have hset:B.l.set e c=B.l:=by
   have:=List.getElem?_eq_some_iff.1 hc;obtain ⟨h1,h2⟩:=this;subst h2;exact List.set_getElem_self h1
  simp only [thaw,hsp,hset]
  let B1:Blk:={ B with kids:=ks }
  have hblk:=h.blk id B hid;have:=h.one (w':=w) id (.live B1) (X.A id) (X.C id) (F id) (by simp) (fun B' e=>.inr ⟨B,hid,.inr (by injection e with e;subst e;exact ⟨rfl,rfl,rfl,rfl,rfl⟩)⟩)
   (fun B' _ g hg=>⟨h.lt g ⟨id,B,hid,hg⟩,.inl ⟨B,hid,hg⟩⟩) (fun B' _=>h.nd id B hid) (Nat.le_refl _) (fun _ _ _=>rfl) h.kept
   (fun B' e hX hM=>by
    injection e with e;subst e;have hb:=hblk.frame (w':=w) (M':=Mut (X.upd id (.live B1) (X.A id) (X.C id)) (upd F id (F id))) (X':=X.upd id (.live B1) (X.A id) (X.C id)) (fun _ _=>rfl) (fun _ _ _=>rfl) hM hX (by simp [Ctx.upd,upd]) (by simp [Ctx.upd,upd]);exact hb)
   (fun x hx=>by
    obtain ⟨B',hB',k1,k2,k3⟩:=h.win id x hx;obtain rfl:B=B':=by rw [hid] at hB';injection hB'
    exact ⟨B1,rfl,k1,k2,k3⟩)
  refine ⟨_,_,this,?_,?_,by simp [Ctx.upd,upd],fun x hx=>⟨[],rfl,by simp,RCs.nil⟩⟩
  ·refine ⟨fun i e => ?_,fun i B' e => ?_,rfl⟩
   ·by_cases hi:i=id
    ·subst hi;simp [Ctx.upd,upd] at e
    ·simpa [Ctx.upd,upd,hi] using e
   ·by_cases hi:i=id
    ·subst hi;simp only [Ctx.upd,upd,if_true] at e;injection e with e;subst e;refine .inr ⟨B,hid,.inr ⟨rfl,rfl,rfl,?_,?_⟩⟩<;>simp [Ctx.upd,upd]
    ·simp only [Ctx.upd,upd,hi,if_false] at e;refine .inr ⟨B',e,.inr ⟨rfl,rfl,rfl,?_,?_⟩⟩<;>simp [Ctx.upd,upd,hi]
  ·rintro g (hg|⟨i,B',hi,hg⟩)
   ·exact .inl hg
   by_cases h1:i=id
   ·subst h1;rw [Own_upd_same] at hg;exact .inr ⟨i,B,hid,hg⟩
   ·rw [Own_upd_ne h1] at hg;exact .inr ⟨i,B',by simpa [Ctx.upd,upd,h1] using hi,hg⟩
 | p::r,X,F,σ,h,id,e,j,b,B,c,hB,hc,hp,hf,ks=>by
  have hid:X.H id=.live B:=by rw [h.hH];exact hB
  have hcj:c[j]? = some p:=by
   have:=congrArg (fun l=>l[0]?) hp;simpa [List.getElem?_take,List.getElem?_drop] using this
  have hjc:j<c.length:=(List.getElem?_eq_some_iff.1 hcj).1;have hr:(c.drop (j+1)).take r.length=r:=by
   rw [List.drop_eq_getElem_cons hjc] at hp;simp only [List.length_cons,List.take_succ_cons,List.cons.injEq] at hp;exact hp.2
  have hrl:j+1+r.length≤c.length:=by
   have:=congrArg List.length hr;simp at this;omega
  by_cases hown:∃ k l,p=.vs true k l
  ·obtain ⟨k,l,rfl⟩:=hown;simp only [thaw] at hf ⊢;have hfb:σ.slot b=.fresh:=hf (b,.live ⟨0,k,[],l⟩) (by simp);obtain ⟨X1,F1,hs,hX,hM,hA,hcell⟩:=h.expose hB hc hcj hfb [];have hne:id≠b:=by intro e;subst e;rw [hB] at hfb;cases hfb
   let c1:=c.set j (.ref b 0 l.length l.length)
   let B1:Blk:={ B with kids:=[],l:=B.l.set e c1 }
   let σ1:=setSlots σ [(id,.live B1),(b,.live ⟨0,k,[],l⟩)]
   have hσ1:∀ i,σ1.slot i=if i=b then .live ⟨0,k,[],l⟩ else if i=id then .live B1 else σ.slot i:=by
    intro i;simp only [σ1,setSlots,St.slot_setSlot]
   have hB1:σ1.slot id=.live B1:=by rw [hσ1,if_neg hne,if_pos rfl]
   have hel:e<B.l.length:=(List.getElem?_eq_some_iff.1 hc).1;have hc1:B1.l[e]? = some c1:=by simp [B1,hel]
   have hr1:(c1.drop (j+1)).take r.length=r:=by
    show ((c.set j _).drop (j+1)).take r.length=r;rw [List.drop_set_of_lt (by omega)];exact hr
   have thaw_ids:∀ (r:List PV) (b0:Nat),∀ y∈(thaw b0 r).2,b0≤y.1:=by
    intro r;induction r with
    | nil=>intro b0 y hy;simp [thaw] at hy
    | cons q r ih =>
     intro b0 y hy;unfold thaw at hy;split at hy
     ·simp only [List.mem_cons] at hy;rcases hy with rfl|hy
      ·exact Nat.le_refl _
      ·have:=ih (b0+1) y hy;omega
     ·exact ih b0 y hy
   have thaw_not_id:∀ y∈(thaw (b+1) r).2,y.1≠id:=by
    intro y hy e;have:=hf y (by simp [hy]);rw [e,hB] at this;cases this
   have hf1:∀ y∈(thaw (b+1) r).2,σ1.slot y.1=.fresh:=by
    intro y hy;have h1:=thaw_ids r (b+1) y hy;rw [hσ1,if_neg (by omega),if_neg (thaw_not_id y hy)];exact hf y (by simp [hy])
   obtain ⟨X2,F2,hs2,hX2,hM2,hA2,hcell2⟩:=SimW.exposeAll r hs (b:=b+1) (j:=j+1) hB1 hc1 hr1 hf1 ks;refine ⟨X2,F2,hs2.congr ?_ ?_ ?_,hX.trans hX2,fun g hg=>hM g (hM2 g hg),hA2.trans hA,fun x hx => ?_⟩
   ·rw [(setSlots_env _ _).1,(setSlots_env _ _).1];exact ((setSlots_env _ _).1).symm
   ·rw [(setSlots_env _ _).2,(setSlots_env _ _).2];exact ((setSlots_env _ _).2).symm
   ·
    have key:∀ (L:List (Nat×Slot)) (σa σb:St),(∀ i,σa.slot i=σb.slot i)→∀ i,(setSlots σa L).slot i=(setSlots σb L).slot i:=by
     intro L;induction L with
     | nil=>intro σa σb hh i;exact hh i
     | cons y L ih=>intro σa σb hh i;exact ih _ _ (fun i=>by rw [St.slot_setSlot,St.slot_setSlot,hh i]) i
    intro i;simp only [setSlots];refine key _ _ _ (fun i => ?_) i;simp only [St.slot_setSlot];have hsp:(splice c1 (j+1) (thaw (b+1) r).1)=splice c j (.ref b 0 l.length l.length::(thaw (b+1) r).1):=by
     have hl:=thaw_len r (b+1);apply List.ext_getElem?;intro q;rw [splice_get (by simp [c1,hl];omega),splice_get (by simp [hl];omega)];simp only [List.length_cons,hl,c1];by_cases h2:j+1≤q∧q<j+1+r.length
     ·rw [if_pos h2,if_pos (by omega),show q-j=(q-(j+1))+1 by omega,List.getElem?_cons_succ]
     ·rw [if_neg h2,List.getElem?_set];by_cases h3:j=q
      ·rw [if_pos h3,if_pos (by omega),if_pos (by omega),show q-j=0 by omega];rfl
      ·rw [if_neg h3,if_neg (by omega)]
    by_cases hi:i=b
    ·subst hi;simp [Ne.symm hne]
    ·by_cases hj:i=id
     ·subst hj;simp [hne,B1,←hsp,List.set_set]
     ·simp [hi,hj]
   ·obtain ⟨u,hu,hru⟩:=hcell x hx;obtain ⟨us,hul,huc,hur⟩:=hcell2 x (hA.trans hx);refine ⟨u::us,by simp [hul],fun i v hv => ?_,?_⟩
    ·cases i with
     | zero=>simp at hv;subst hv;exact hu
     | succ i =>
      have:=huc i v (by simpa using hv);simp only [B1] at this;rw [show e*B.k+j+(i+1)=e*B.k+(j+1)+i by omega];exact this
    ·have:=RCs.cons (hru.frame (w':=w) (by simp) (fun _ _ _=>rfl) (fun g _ hn hm=>hn (hM2 g hm)) hX2) hur;simpa using this
  ·have hstep:thaw b (p::r)=(p::(thaw b r).1,(thaw b r).2):=by
    cases p<;>try rfl
    rename_i q k m;cases q
    ·rfl
    ·exact (hown ⟨k,m,rfl⟩).elim
   rw [hstep] at hf ⊢;have hBR:=h.blk id B hid;have hck:c.length=B.k:=hBR.1 c (List.mem_of_getElem? hc);obtain ⟨X2,F2,hs2,hX2,hM2,hA2,hcell2⟩:=SimW.exposeAll r h (b:=b) (j:=j+1) hB hc hr hf ks;have hsp:splice c (j+1) (thaw b r).1=splice c j (p::(thaw b r).1):=by
    have hl:=thaw_len r b;apply List.ext_getElem?;intro q;rw [splice_get (by simp [hl];omega),splice_get (by simp [hl];omega)];simp only [List.length_cons,hl];by_cases h2:j+1≤q∧q<j+1+r.length
    ·rw [if_pos h2,if_pos (by omega),show q-j=(q-(j+1))+1 by omega,List.getElem?_cons_succ]
    ·rw [if_neg h2];by_cases h3:j=q
     ·subst h3;rw [if_pos (by omega),Nat.sub_self];exact hcj
     ·rw [if_neg (by omega)]
   rw [hsp] at hs2;refine ⟨X2,F2,hs2,hX2,hM2,hA2,fun x hx => ?_⟩;obtain ⟨us,hul,huc,hur⟩:=hcell2 x hx;obtain ⟨xs,⟨hll,fps,hfl,hFid,hrc⟩,hcells⟩:=hBR.cells x hx;have hpos:B.l.flatten[e*B.k+j]? = some p:=by rw [flatten_get B.l hBR.1 e j (by omega),hc];exact hcj
   have hposl:e*B.k+j<xs.length:=by have:=(List.getElem?_eq_some_iff.1 hpos).1;omega
   have hu:=List.getElem?_eq_getElem hposl;have hff:=List.getElem?_eq_getElem (show e*B.k+j<fps.length by omega);have hru:=hrc _ p _ _ hpos hu hff;rw [hru.fp_nil (fun k l e=>hown ⟨k,l,e⟩)] at hru;refine ⟨xs[e*B.k+j]::us,by simp [hul],fun i v hv => ?_,?_⟩
   ·cases i with
    | zero=>simp at hv;subst hv;exact (hcells _ _ hu).1
    | succ i =>
     have:=huc i v (by simpa using hv);rw [show e*B.k+j+(i+1)=e*B.k+(j+1)+i by omega];exact this
   ·have:=RCs.cons (hru.frame (w':=w) (by simp) (fun _ _ _=>rfl) (fun g _ hn hm=>hn (hM2 g hm)) hX2) hur;simpa using this
end
section
variable {P:Program} {G:Fr} {X:Ctx} {F:Nat→List Nat} {σ:St} {a:Act} {acts:List Act} {w:World} {M:Nat→Prop} {o:Oper} {b:Nat} {K:Eff→Prop}
theorem sound_ld (h:SimW G X F σ (a::acts) w) {t:TypeId} {d:TypeDesc} {i:TypeInfo} {x:Operand} {y:Ix} {n:Nat} (ho:o.op=.load t x) (ht:P.underlying t=some d) (hd:descAgg d=true) (hi:P.info? t=some i) (hn:i.size=n) (hx:ixOk x y=true)
  (he:effK σ b (.ld n y) K):∃ E,K E∧Outs P G σ acts a o w E:=by
 have hrun:∀ (ad:Addr) (us:List Value),a.eval x=.pointer (some ad)→us.length=n→(∀ (i:Nat) (u:Value),us[i]? = some u→w.cell? (ad.add i)=some u)→(execOp a.eval o).run P w=.ok (.value (.agg us.toArray)) w:=by
  intro ad us hv hl hc;have:=run_loadCells_list (P:=P) w ad us hc;rw [hl] at this;simp [execOp,ho,hv,Instr.loadAt,Instr.sureAddr,loadVar,run_isAgg ht,hd,sizeOf,typeInfo,hi,hn,this]
 simp only [effK] at he;split at he
 ·rename_i id full e j hy;obtain ⟨B,hB,hl,c,hc,hjn,he⟩:=blk_inv he;obtain ⟨h1,z,hz,hv,hid⟩:=h.at_ptr hx hy hB hl;have hsegl:((c.drop j).take n).length=n:=by simp;omega
  split at he
  ·rename_i l0 hth;have hnil:=thaw_nil_iff ((c.drop j).take n) b (by rw [hth]);have hBR:=h.blk id B hid;obtain ⟨xs,⟨hll,fps,hfl,hFid,hrc⟩,hcells⟩:=hBR.cells z hz;have hck:c.length=B.k:=hBR.1 c (List.mem_of_getElem? hc);have hfll:=flatten_len B.l hBR.1;have hel:e<B.l.length:=(List.getElem?_eq_some_iff.1 hc).1;have hpos:e*B.k+B.k≤xs.length:=by
    rw [← hll,hfll,←Nat.succ_mul];exact Nat.mul_le_mul_right _ hel
   refine ⟨_,he,.quiet h (hrun _ ((xs.drop (e*B.k+j)).take n) hv (by simp;omega) fun i u hu => ?_) ⟨_,rfl,RCs.of_nofp (by rw [hsegl];simp;omega) fun i p u hp hu => ?_⟩⟩
   ·rw [List.getElem?_take] at hu;split at hu
    ·rw [List.getElem?_drop] at hu;rw [addr_add_add];exact (hcells _ u hu).1
    ·cases hu
   ·have hpn:=hp;rw [List.getElem?_take] at hp hu;split at hp
    ·rename_i hin;rw [if_pos hin,List.getElem?_drop] at hu;rw [List.getElem?_drop] at hp;have hp':B.l.flatten[e*B.k+j+i]? = some p:=by
      rw [Nat.add_assoc,flatten_get B.l hBR.1 e (j+i) (by omega),hc];exact hp
     have hql:e*B.k+j+i<xs.length:=(List.getElem?_eq_some_iff.1 hu).1;have hr:=hrc _ p u _ hp' hu (List.getElem?_eq_getElem (show e*B.k+j+i<fps.length by omega));rw [hr.fp_nil (fun k m=>hnil.2 p (List.mem_of_getElem? hpn) k m)] at hr;exact hr
    ·cases hp
  ·rename_i l ws hne hth;obtain ⟨hf,hK⟩:=he;obtain ⟨X1,F1,hs,hX,hM,hA,hcell⟩:=h.exposeAll ((c.drop j).take n) (b:=b) hB hc (by rw [hsegl]) (by
    intro y hy;rw [hth] at hy;exact hf y hy) []
   obtain ⟨us,hul,huc,hur⟩:=hcell z hz;rw [hth] at hs hur;rw [hsegl] at hul;refine ⟨_,hK,.agg us.toArray,w,.inl (hrun _ us hv hul fun i u hu => ?_),X1,F1,hs,us,rfl,hur⟩;rw [addr_add_add];exact huc i u hu
 ·rename_i l j hy;have hv:=h.ev1 hx (by rw [hy];simp);rw [hy] at hv;obtain ⟨ad,xs,e1,hl,hx2,hc⟩:=hv.rp_inv;obtain ⟨hjn,hK⟩:=he;refine ⟨_,hK,.quiet h (hrun _ ((xs.drop j).take n) e1 (by simp;omega) fun i u hu => ?_) ⟨_,rfl,RCs.of_nofp (by simp;omega) fun i p u hp hu => ?_⟩⟩
  ·rw [List.getElem?_take] at hu;split at hu
   ·rw [List.getElem?_drop] at hu;rw [addr_add_add];exact (hx2 _ u hu).2
   ·cases hu
  ·rw [List.getElem?_map] at hp;rw [List.getElem?_take] at hp hu;split at hp
   ·rename_i hin;rw [if_pos hin,List.getElem?_drop] at hu;rw [List.getElem?_drop] at hp;obtain ⟨p',hp',rfl⟩:=Option.map_eq_some_iff.1 hp;exact hc _ p' u hp' hu
   ·cases hp
 ·exact he.elim
theorem SimW.win_id (h:SimW G X F σ acts w) {id:Nat} {B:Blk} (hid:X.H id=.live B) {z:Nat×Nat} (hz:X.A id=some z) {x:Nat×Nat×Nat} (hx:x∈G.wins) (he:x.1=z.1) :
  B.kd=2∧z=(x.1,x.2.1)∧B.k=x.2.2∧B.l.length=1:=by
 obtain ⟨i,hi⟩:=List.getElem?_of_mem hx;obtain ⟨B',hB',k1,k2,k3⟩:=h.win i x hi;have hii:i=id:=by
  apply Classical.byContradiction;intro hne;exact h.dj i id B' B hB' hid hne x.1 (by simp [Own,k2]) (by simp [Own,hz,he])
 subst hii;obtain rfl:B=B':=by rw [hid] at hB';injection hB'
 rw [hz] at k2;injection k2 with k2;refine ⟨k1,k2,k3,?_⟩;obtain ⟨_,xs,_,hrow⟩:=h.blk i B hid;rcases hrow with ⟨h0,_⟩|⟨_,y,_,h1,_⟩
 ·rw [k1] at h0;cases h0
 ·exact h1
theorem Kept.setRow {w0 w:World} {own:Nat→Prop} {wins:List (Nat×Nat×Nat)} (h:Kept w0 w own wins) {g:Nat} {c c':Array Value} {ty:TypeId} {fz:Nat×Nat} (hg:w.heap[g]? = some (.cells c ty fz)) (hs:c'.size=c.size)
  (ho:own g∨(∃ x∈wins,x.1=g)∨w0.heap.size≤g) (hw:∀ x∈wins,x.1=g→∀ j,(j<x.2.1∨x.2.1+x.2.2≤j)→c'[j]? = c[j]?):Kept w0 (w.setRow g c') own wins where
 os:=h.os
 tape:=h.tape
 output:=h.output
 size:=by simpa using h.size
 old:=fun k hk hn hnw=>by
  have:k≠g:=by
   rintro rfl;rcases ho with ho|⟨x,hx,he⟩|ho
   ·exact hn ho
   ·exact hnw x hx he
   ·omega
  rw [setRow_other w g k c' this];exact h.old k hk hn hnw
 win:=fun x hx=>by
  obtain ⟨c0,ty',fz',c1,h1,h2,h3,h4⟩:=h.win x hx;by_cases e:x.1=g
  ·rw [e,hg] at h2;injection h2 with h2;injection h2 with e1 e2 e3;subst e1 e2 e3;exact ⟨c0,_,_,c',h1,by rw [e];exact setRow_heap w g _ c' _ _ hg,hs.trans h3,fun j hj=>(hw x hx e j hj).trans (h4 j hj)⟩
  ·exact ⟨c0,ty',fz',c1,h1,by rw [setRow_other w g x.1 c' e];exact h2,h3,h4⟩
theorem splice_parts {α:Type} (l:List α) (pos:Nat) (ys:List α):splice l pos ys=l.take pos++ys++l.drop (pos+ys.length):=rfl
theorem SimW.write (h:SimW G X F σ acts w) {id e j:Nat} {B:Blk} {c ys:List PV} {vs:List Value} {z:Nat×Nat} (hB:σ.slot id=.live B) (hc:B.l[e]? = some c) (hz:X.A id=some z) (hjn:j+ys.length≤c.length)
  (hr:RCs w (Mut X F) X ys vs []) (h0n:0<ys.length) (ks:List (Nat×Nat)) :
  ∃ (cs:Array Value) (ty:TypeId) (fz:Nat×Nat),w.heap[z.1]? = some (.cells cs ty fz)∧z.2+(e*B.k+j)+vs.length≤cs.size∧(∀ q,e*B.k+j≤q→q<e*B.k+j+vs.length→w.frozen? ((baseOf z).add q)=false) ∧
   ∃ F',SimW G (X.upd id (.live { B with kids:=ks,l:=B.l.set e (splice c j ys) }) (X.A id) (X.C id)) F' (σ.setSlot id (.live { B with kids:=ks,l:=B.l.set e (splice c j ys) })) acts
    (w.setRow z.1 (splice cs.toList (z.2+(e*B.k+j)) vs).toArray):=by
 have hid:X.H id=.live B:=by rw [h.hH];exact hB
 have hBR:=h.blk id B hid;obtain ⟨hk,xs,hcs,hrow⟩:=hBR;have hck:c.length=B.k:=hk c (List.mem_of_getElem? hc);have hel:e<B.l.length:=(List.getElem?_eq_some_iff.1 hc).1;have hfll:=flatten_len B.l hk;have hyv:=hr.1;have hle:e*B.k+B.k≤B.l.length*B.k:=by rw [← Nat.succ_mul];exact Nat.mul_le_mul_right _ hel
 have hpos:e*B.k+j+vs.length≤xs.length:=by rw [← hcs.1,hfll];omega
 have hfs:=flatten_splice B.l hk e j c ys hc (by omega);have hcells:CellsAt w z xs:=by
  rcases hrow with ⟨h0,e',hr'⟩|⟨h0,y,hy,h1,hcell⟩
  ·exact (cellsAt_of_row hr' hz).2
  ·obtain rfl:y=z:=by rw [hz] at hy;exact (Option.some.inj hy).symm
   exact hcell
 have hone:∀ q u,xs[q]? = some u→∃ (cs:Array Value) (ty:TypeId) (fz:Nat×Nat),w.heap[z.1]? = some (.cells cs ty fz)∧cs[z.2+q]? = some u:=by
  intro q u hu;have:=(hcells q u hu).1;rw [add_baseOf] at this;unfold World.cell? at this;split at this
  ·rename_i cs ty fz hh;exact ⟨cs,ty,fz,hh,by simpa using this⟩
  ·cases this
 obtain ⟨cs,ty,fz,hg,hlast⟩:=hone (xs.length-1) _ (List.getElem?_eq_getElem (by omega));have hsz:z.2+xs.length≤cs.size:=by have:=(Array.getElem?_eq_some_iff.1 hlast).1;omega
 have hat:∀ q u,xs[q]? = some u→cs[z.2+q]? = some u:=by
  intro q u hu;obtain ⟨cs',ty',fz',h1,h2⟩:=hone q u hu;rw [hg] at h1;injection h1 with h1;injection h1 with e1 e2 e3;subst e1;exact h2
 have hfr:∀ q,q<xs.length→w.frozen? ((baseOf z).add q)=false:=fun q hq=>(hcells q _ (List.getElem?_eq_getElem hq)).2
 refine ⟨cs,ty,fz,hg,by omega,fun q h1 h2=>hfr q (by omega),?_⟩;obtain ⟨f1,f2,f3,hF,hc1,hc2,hc3⟩:=hcs.parts (e*B.k+j) vs.length
 let pos:=e*B.k+j
 let cs':Array Value:=(splice cs.toList (z.2+pos) vs).toArray
 let w':=w.setRow z.1 cs'
 let B':Blk:={ B with kids:=ks,l:=B.l.set e (splice c j ys) }
 have hcs'l:cs'.size=cs.size:=by
  have:=splice_len (l:=cs.toList) (pos:=z.2+pos) (ys:=vs) (by simp [pos];omega);simpa [cs'] using this
 have hg':w'.heap[z.1]? = some (.cells cs' ty fz):=setRow_heap w z.1 cs cs' ty fz hg;have hoth:∀ g,g≠z.1→w'.heap[g]? = w.heap[g]? := fun g hne=>setRow_other w z.1 g cs' hne
 have hzin:z.1∈Own X F id:=by simp [Own,hz]
 have hnd:=h.nd id B hid;have hOwn:Own X F id=z.1::(f1++f2++f3):=by simp [Own,hz,hF]
 rw [hOwn] at hnd;have hnz:∀ g∈f1++f2++f3,g≠z.1:=by
  intro g hg0 e1;subst e1;exact (List.nodup_cons.1 hnd).1 hg0
 refine ⟨upd F id (f1++f3),?_⟩;refine h.one (w':=w') id (.live B') (X.A id) (X.C id) (f1++f3) (by simp) (fun B2 e2 => ?_) (fun B2 e2 g hg0 => ?_) (fun B2 e2 => ?_) (by simp [w']) (fun g hgl hgo => ?_) ?_ (fun B2 e2 hX hM => ?_) (fun x hx => ?_)
 ·injection e2 with e2;subst e2;exact .inr ⟨B,hid,.inr ⟨by simp [B'],rfl,rfl,rfl,rfl⟩⟩
 ·have hin:g∈Own X F id:=by
   rw [hOwn];rw [hz] at hg0;simp only [Option.map_some,Option.toList_some,List.cons_append,List.nil_append,List.mem_cons,lma] at hg0 ⊢;rcases hg0 with hg0|hg0|hg0
   ·exact .inl hg0
   ·exact .inr (.inl (.inl hg0))
   ·exact .inr (.inr hg0)
  exact ⟨by have:=h.lt g ⟨id,B,hid,hin⟩;simpa [w'] using this,.inl ⟨B,hid,hin⟩⟩
 ·rw [hz];simp only [Option.map_some,Option.toList_some,List.cons_append,List.nil_append];refine hnd.sublist (List.Sublist.cons_cons _ ?_);exact List.Sublist.append (List.sublist_append_left f1 f2) (List.Sublist.refl f3)
 ·refine hoth g ?_;rintro rfl;exact hgo B hid hzin
 ·refine h.kept.setRow hg hcs'l (h.src z.1 ⟨id,B,hid,hzin⟩) (fun x hx he q hq => ?_);obtain ⟨k1,k2,k3,k4⟩:=h.win_id hid hz hx he;have he0:e=0:=by omega
  subst he0;have hz2:z.2=x.2.1:=by rw [k2]
  simp only [cs',List.getElem?_toArray];rw [splice_get (by simp [pos];omega),if_neg (by simp only [pos];omega)];simp
 ·injection e2 with e2;subst e2;have hro:∀ g,g<w.heap.size→¬ Mut X F g→w'.heap[g]? = w.heap[g]? := fun g _ hn=>hoth g fun e1=>hn (e1▸.inr ⟨id,B,hid,hzin⟩)
  have hxs':splice xs pos vs=xs.take pos++vs++xs.drop (pos+vs.length):=rfl;have hrc:RCs w' (Mut (X.upd id (.live B') (X.A id) (X.C id)) (upd F id (f1++f3))) (X.upd id (.live B') (X.A id) (X.C id)) B'.l.flatten (splice xs pos vs) (f1++f3):=by
   have q1:=hc1.frame (w':=w') (fun g hg0=>hoth g (hnz g (by simp [hg0]))) hro hM hX;have q2:=hr.frame (w':=w') (by simp) hro hM hX;have q3:=hc3.frame (w':=w') (fun g hg0=>hoth g (hnz g (by simp [hg0]))) hro hM hX;have q:=(q1.append q2).append q3;rw [List.append_nil] at q;have e0:B'.l.flatten=List.take pos B.l.flatten++ys++List.drop (pos+vs.length) B.l.flatten:=by
    show (B.l.set e (splice c j ys)).flatten=_;rw [hfs,splice_parts,hyv]
   rw [e0,hxs'];exact q
  refine ⟨?_,splice xs pos vs,hrc,?_⟩
  ·intro c' hc';rcases List.mem_or_eq_of_mem_set hc' with h1|rfl
   ·exact hk _ h1
   ·rw [splice_len (by omega)];exact hck
  ·have hcell':∀ q u,(splice xs pos vs)[q]? = some u→cs'[z.2+q]? = some u:=by
    intro q u hu;rw [splice_get (by simp only [pos];omega)] at hu;simp only [cs',List.getElem?_toArray];rw [splice_get (by simp [pos];omega)];by_cases h2:pos≤q∧q<pos+vs.length
    ·rw [if_pos h2] at hu;rw [if_pos (by omega),show z.2+q-(z.2+pos)=q-pos by omega];exact hu
    ·rw [if_neg h2] at hu;rw [if_neg (by omega)];simpa using hat q u hu
   rcases hrow with ⟨h0,e',hr'⟩|⟨h0,y,hy,h1,hcell⟩
   ·refine .inl ⟨h0,e',?_⟩;have hA:(X.upd id (.live B') (X.A id) (X.C id)).A id=X.A id:=by simp [Ctx.upd,upd]
    have hC:(X.upd id (.live B') (X.A id) (X.C id)).C id=X.C id:=by simp [Ctx.upd,upd]
    rw [hA,hC];have hbl:B'.l.length=B.l.length:=by simp [B']
    rw [hbl];refine ⟨by rw [splice_len (by simp only [pos];omega)];exact hr'.1,?_⟩;rcases hr'.2 with ⟨h1,h2⟩|⟨g,cap,cur,he,hb0,hgg,hn,hm,hs,ht⟩
    ·rw [hz] at h1;simp at h1
    ·have he2:=he;rw [hz] at he;simp only [Option.map_some,Value.slice.injEq,osi,baseOf,Addr.mk.injEq] at he;obtain ⟨⟨h1,h2,_⟩,_,h3⟩:=he;subst h1;rw [hg] at hgg;injection hgg with hgg;injection hgg with e1 e2 e3;subst e1 e2 e3
     refine .inr ⟨z.1,cap,cs',he2,hb0,hg',hn,hm,hcs'l.trans hs,?_⟩;apply List.ext_getElem?;intro q;rw [List.getElem?_take];have hxl:(splice xs pos vs).length=B.l.length*B.k:=by rw [splice_len (by simp only [pos];omega)];exact hr'.1
     by_cases hq:q<B.l.length*B.k
     ·rw [if_pos hq];have hu:=List.getElem?_eq_getElem (show q<(splice xs pos vs).length by omega);have:=hcell' q _ hu;rw [h2,Nat.zero_add] at this;rw [hu];simpa using this
     ·rw [if_neg hq,List.getElem?_eq_none (by omega)]
   ·obtain rfl:y=z:=by rw [hz] at hy;exact (Option.some.inj hy).symm
    refine .inr ⟨h0,y,by simp [Ctx.upd,upd,hz],by simpa [B'] using h1,fun q u hu => ?_⟩;have hq:q<xs.length:=by have:=(List.getElem?_eq_some_iff.1 hu).1;rw [splice_len (by simp only [pos];omega)] at this;exact this
    have hf:=hfr q hq;rw [add_baseOf] at hf ⊢;refine ⟨?_,?_⟩
    ·rw [cell_of_row w' y.1 _ cs' ty fz hg'];exact hcell' q u hu
    ·simp only [World.frozen?,hg',hg] at hf ⊢;exact hf
 ·obtain ⟨B2,hB2,k1,k2,k3⟩:=h.win id x hx;obtain rfl:B=B2:=by rw [hid] at hB2;injection hB2
  exact ⟨B',rfl,k1,k2,k3⟩
theorem sound_st (h:SimW G X F σ (a::acts) w) {t:TypeId} {i:TypeInfo} {x v:Operand} {y z:Ix} {n:Nat} (ho:o.op=.store t x v) (hi:P.info? t=some i) (hn:i.size=n) (hn0:0<n) (hx:ixOk x y=true) (hz:ixOk v z=true)
  (he:effK σ b (.st n y z) K):∃ E,K E∧Outs P G σ acts a o w E:=by
 simp only [effK] at he;split at he
 ·rename_i id full e j hy;obtain ⟨B,hB,hl,c,ys,hc,hys,hyl,hjn,hK⟩:=blk_inv he;obtain ⟨h1,q,hq,hv,hid⟩:=h.at_ptr hx hy hB hl;obtain ⟨vs,hvs,hr⟩:=h.cells hz hys;obtain ⟨cs,ty,fz,hg,hsz,hfr,F',hs⟩:=h.write (ys:=ys) (j:=j) hB hc hq (by omega) hr (by omega) [];refine ⟨_,hK,undef,_,.inr ⟨?_,rfl⟩,_,_,hs,trivial⟩;have hst:=run_storeCells_at (P:=P) q ty fz vs (e*B.k+j) cs w hg (fun j' h1 h2=>hfr j' h1 h2) hsz hr.oneCell;have hvl:vs.length=n:=by rw [← hr.1];exact hyl
  have hshift:∀ (vs:List Value) (ad:Addr) (m i:Nat),storeCells (ad.add m) vs i=storeCells ad vs (m+i):=by
   intro vs;induction vs with
   | nil=>intros;rfl
   | cons u vs ih =>
    intro ad m i;simp only [storeCells,addr_add_add,ih];rfl
  have hsh:=hshift vs (baseOf q) (e*B.k+j) 0;rw [Nat.add_zero] at hsh;simp [execOp,ho,hv,Instr.storeAt,Instr.sureAddr,storeVar,sizeOf,typeInfo,hi,hn,hvs,hvl,hsh,hst]
 ·exact he.elim
end
section
variable {P:Program} {G:Fr} {X:Ctx} {F:Nat→List Nat} {σ:St} {a:Act} {acts:List Act} {w:World} {M:Nat→Prop} {o:Oper} {b:Nat} {K:Eff→Prop}
theorem storeCells_shift:∀ (vs:List Value) (ad:Addr) (m i:Nat),storeCells (ad.add m) vs i=storeCells ad vs (m+i)
 | [],_,_,_=>rfl
 | u::vs,ad,m,i=>by
  simp only [storeCells,addr_add_add,storeCells_shift vs];rfl
theorem run_append_any {t ty e:TypeId} {i:TypeInfo} {z:Value} {k:Nat} (ht:P.underlying t=some (.slice e)) (hi:P.info? e=some i) (hz:i.zero=some z) (hk:i.size=k) (hzs:z.cells.size=k)
  {A:Option (Nat×Nat)} {C n:Nat} {xs:List Value} {e0:TypeId} (hown:w.ownsRow 0 e0 k (.slice (A.map baseOf) n C) n xs)
  {Y:Option Addr} {m c:Nat} {news:List Value} (hl:news.length=m*k) (hnews:∀ (j:Nat) (u:Value),news[j]? = some u→∃ ad,Y=some ad∧w.cell? (ad.add j)=some u) (h0:Y=none→m=0) (h1:∀ u∈news,u.oneCell'=true)
  (hbytes:(n+m)*i.bytes≤140737488355328) (h63:n+m≤140737488355328) :
  ∃ (A':Option (Nat×Nat)) (C':Nat) (w':World) (e':TypeId),(Builtin.append_ #[t,t] ty #[.slice (A.map baseOf) n C,.slice Y m c]).run P w=.ok (.slice (A'.map baseOf) (n+m) C') w' ∧
   w'.ownsRow 0 e' k (.slice (A'.map baseOf) (n+m) C') (n+m) (xs++news)∧w.heap.size≤w'.heap.size ∧
   ((A'=A∧C'=C∧(w'=w∨∃ g cs cs' ty fz,A=some (g,0)∧w.heap[g]? = some (.cells cs ty fz)∧cs'.size=cs.size∧w'=w.setRow g cs')) ∨
    (A'=some (w.heap.size,0)∧0<m∧∃ ob,w'=w.drew.alloc ob)):=by
 subst hk;have hlen:(xs++news).length=(n+m)*i.size:=by rw [List.length_append,hown.1,hl,Nat.add_mul]
 have hund:=run_underlying (P:=P) (w:=w) ht;cases hY:Y with
 | none =>
  have hm:m=0:=h0 hY;subst hm;have hn:news=[]:=List.eq_nil_of_length_eq_zero (by simpa using hl);subst hn;refine ⟨A,C,w,e0,?_,by simpa using hown,Nat.le_refl _,.inl ⟨rfl,rfl,.inl rfl⟩⟩;have hle:n≤C:=by
   rcases hown.2 with ⟨h2,h3⟩|⟨g,cap,cur,he,_,_,hn,_⟩
   ·injection h2 with h4 h5 h6;omega
   ·injection he with h4 h5 h6;omega
  cases A<;>simp [Builtin.append_,hund,sizeOf,typeInfo,hi,Builtin.lenOf,Builtin.firstCells,hle,storeCells]
 | some ad =>
  subst hY;have hnews':∀ (j:Nat) (u:Value),news[j]? = some u→w.cell? (ad.add j)=some u:=by
   intro j u hu;obtain ⟨ad',h2,h3⟩:=hnews j u hu;injection h2 with h2;subst h2;exact h3
  have grown:∀ (old:Nat),old<n+m→(w.drew.alloc (.cells (xs.toArray++news.toArray++Builtin.zeroCells z.cells (grownCap w (n+m) old e-(n+m))) e)).ownsRow 0 e i.size
    (.slice (some ⟨w.heap.size,0,none⟩) (n+m) (grownCap w (n+m) old e)) (n+m) (xs++news):=by
   intro old ho;have hge:=grownCap_ge w (n+m) old e;have hcm:grownCap w (n+m) old e≤maxLen:=grownCap_le_maxLen w (n+m) old e (by simp only [maxLen];omega);refine ⟨hlen,.inr ⟨w.heap.size,_,_,rfl,Nat.zero_le _,heap_alloc_new w.drew _,hge,hcm,?_,?_⟩⟩
   ·simp only [Array.size_append,List.size_toArray,size_zeroCells,hzs,hown.1,hl,←Nat.add_mul];congr 1;omega
   ·simp only [Array.toList_append,List.append_assoc];rw [← List.append_assoc,←hlen];exact List.take_left
  rcases hown.2 with ⟨h2,h3⟩|⟨g,cap,cur,he,_,hg,hn,hm,hcs,htake⟩
  ·subst h3;injection h2 with h4 _ h5;have hA:A=none:=by cases A<;>simp at h4 ⊢
   subst hA h5;have hx:xs=[]:=List.eq_nil_of_length_eq_zero (by simpa using hown.1);subst hx;rcases Nat.eq_zero_or_pos m with hm|hm
   ·subst hm;have hn:news=[]:=List.eq_nil_of_length_eq_zero (by simpa using hl);subst hn;refine ⟨none,0,w,e0,?_,by simpa using hown,Nat.le_refl _,.inl ⟨rfl,rfl,.inl rfl⟩⟩;simp [Builtin.append_,hund,sizeOf,typeInfo,hi,Builtin.lenOf,Builtin.firstCells,loadCells,loadCellsFrom]
   ·have hr:=run_append_nil (P:=P) w t ty e i z ht hi hz ad m c news hl hnews' hm (by omega) (by have hb:=hbytes;simp only [Nat.zero_add] at hb;omega);have hgr:=grown 0 (by omega);simp only [Nat.zero_add,List.nil_append,Array.empty_append] at hgr ⊢;exact ⟨some (w.heap.size,0),_,_,e,hr,hgr,by simp,.inr ⟨rfl,hm,_,rfl⟩⟩
  ·injection he with h4 _ h5;subst h5;have hA:A=some (g,0):=by
    cases A with
    | none=>simp at h4
    | some q =>
     simp only [Option.map_some,osi,baseOf,Addr.mk.injEq] at h4;obtain ⟨h6,h7,_⟩:=h4;rw [← h6,←h7]
   subst hA;by_cases hroom:n+m≤C
   ·have hfit:n*i.size+news.length≤cur.size:=by rw [hl,hcs,←Nat.add_mul];exact Nat.mul_le_mul_right _ hroom
    have hld:(loadCells ad (m*i.size)).run P w=.ok news.toArray w:=by
     have:=run_loadCells_list (P:=P) w ad news hnews';rw [hl] at this;exact this
    have hst:=run_storeCells_at (P:=P) (g,0) e0 (0,0) news (n*i.size) cur w hg (fun j _ _=>by rw [add_baseOf];exact frozen_of_row w g _ cur e0 hg) (by simp;omega) h1;have hsh:=storeCells_shift news (baseOf (g,0)) (n*i.size) 0;rw [Nat.add_zero] at hsh;simp only [Nat.zero_add] at hst;refine ⟨some (g,0),C,_,e0,?_,⟨hlen,.inr ⟨g,C,_,rfl,Nat.zero_le _,setRow_heap w g cur _ e0 _ hg,hroom,hm,?_,?_⟩⟩,by simp,.inl ⟨rfl,rfl,.inr ⟨g,cur,(splice cur.toList (n*i.size) news).toArray,e0,(0,0),rfl,hg,?_,rfl⟩⟩⟩
    ·simp [Builtin.append_,hund,sizeOf,typeInfo,hi,Builtin.lenOf,Builtin.firstCells,hld,hroom,hsh,hst]
    ·simp only [List.size_toArray];rw [splice_len (by simp;omega)];simpa using hcs
    ·show (splice cur.toList (n*i.size) news).take _=_;unfold splice;rw [htake,←hlen];exact List.take_left
    ·simp only [List.size_toArray];rw [splice_len (by simp;omega)];simp
   ·have holds:∀ j u,xs[j]? = some u→w.cell? ((⟨g,0,none⟩:Addr).add j)=some u:=hown.cells (g:=g) rfl;have hr:=run_append_grow (P:=P) w t ty e i z ht hi hz ⟨g,0,none⟩ n C xs hown.1 holds ad m c news hl hnews' (by omega) (by omega) (growslice_fits (by omega) hbytes);exact ⟨some (w.heap.size,0),_,_,e,hr,grown C (by omega),by simp,.inr ⟨rfl,by omega,_,rfl⟩⟩
def Src (w:World) (M:Nat→Prop) (X:Ctx) (k:Nat) (v:Value) (ys:List (List PV)):Prop :=
 ∃ (Y:Option Addr) (c:Nat) (news:List Value),v=.slice Y ys.length c∧RCs w M X ys.flatten news [] ∧
  (∀ (j:Nat) (u:Value),news[j]? = some u→∃ ad,Y=some ad∧w.cell? (ad.add j)=some u)∧(Y=none→0<k→ys.length=0)
def appSrc (σ:St) (k:Nat) (y:Ix) (K':List (List PV)→List Nat→Prop):Prop :=
 match σ.ev1 y with
 | .ref id lo len full=>σ.blk id full fun B=>B.k=k∧(∀ c∈B.l,∀ p∈c,p.free=true)∧K' ((B.l.drop lo).take len) [id]
 | .vs o k' l=>(o=false∨l=[])∧(k'=k∨l=[])∧K' (l.map fun c=>c.map PV.sh) []
 | _=>False
theorem appSrc_rel (h:SimW G X F σ (a::acts) w) {y:Operand} {y':Ix} {k:Nat} (hy:ixOk y y'=true) {K':List (List PV)→List Nat→Prop} (hk0:0<k) (he:appSrc σ k y' K') :
  ∃ ys rd,K' ys rd∧Src w (Mut X F) X k (a.eval y) ys:=by
 unfold appSrc at he;split at he
 ·rename_i id lo len full hyy;have hv:=h.ev1 hy (by rw [hyy];simp);rw [hyy] at hv;obtain ⟨B,hB,hl,hBk,hfree,hK⟩:=blk_inv he;obtain ⟨hf,_,hlive⟩:=hv.ref_inv;have hid:X.H id=.live B:=by rw [h.hH];exact hB
  obtain ⟨_,h3⟩:=hlive B hid;obtain ⟨hkd,h4,A,c,hv2,hc,hA0,hA1⟩:=h3 hl;refine ⟨_,_,hK,A,c,?_⟩;have hyl:((B.l.drop lo).take len).length=len:=by simp;omega
  obtain ⟨hcl,xs,⟨hll,fps,hfl,hFid,hrc⟩,hrow⟩:=h.blk id B hid;obtain ⟨e',hr⟩:∃ e',w.ownsRow 0 e' B.k (.slice ((X.A id).map baseOf) B.l.length (X.C id)) B.l.length xs:=by
   rcases hrow with ⟨_,k2⟩|⟨hne,_⟩
   ·exact k2
   ·exact (hne hkd).elim
  have hsub:∀ c∈(B.l.drop lo).take len,c.length=B.k:=fun c hc=>hcl c (List.mem_of_mem_drop (List.mem_of_mem_take hc))
  have hflat:((B.l.drop lo).take len).flatten=(B.l.flatten.drop (lo*B.k)).take (len*B.k):=by
   have key:∀ (l:List (List PV)),(∀ c∈l,c.length=B.k)→∀ n,(l.drop n).flatten=l.flatten.drop (n*B.k):=by
    intro l;induction l with
    | nil=>intro _ n;simp
    | cons c l ih =>
     intro hl n;have hc:=hl c (by simp);cases n with
     | zero=>simp
     | succ n =>
      simp only [List.drop_succ_cons,List.flatten_cons];rw [ih (fun c h=>hl c (by simp [h])) n,Nat.add_mul,Nat.one_mul,Nat.add_comm (n*B.k),←hc,←List.drop_drop,List.drop_left]
   have key2:∀ (l:List (List PV)),(∀ c∈l,c.length=B.k)→∀ n,(l.take n).flatten=l.flatten.take (n*B.k):=by
    intro l;induction l with
    | nil=>intro _ n;simp
    | cons c l ih =>
     intro hl n;have hc:=hl c (by simp);cases n with
     | zero=>simp
     | succ n =>
      simp only [List.take_succ_cons,List.flatten_cons];rw [ih (fun c h=>hl c (by simp [h])) n,Nat.add_mul,Nat.one_mul,Nat.add_comm (n*B.k),←hc,List.take_length_add_append]
   rw [key2 _ (fun c hc=>hcl c (List.mem_of_mem_drop hc)),key _ hcl]
  refine ⟨(xs.drop (lo*B.k)).take (len*B.k),by rw [hyl];exact hv2,RCs.of_nofp ?_ ?_,?_,?_⟩
  ·rw [hflat];simp [hll]
  ·intro j p u hp hu;rw [hflat] at hp;rw [List.getElem?_take] at hp hu;split at hp
   ·rename_i hj;rw [if_pos hj,List.getElem?_drop] at hu;rw [List.getElem?_drop] at hp;have hq:lo*B.k+j<xs.length:=(List.getElem?_eq_some_iff.1 hu).1;have hr2:=hrc _ p u _ hp hu (List.getElem?_eq_getElem (show lo*B.k+j<fps.length by omega));have hpf:p.free=true:=by
     obtain ⟨c0,hc0,hpc⟩:=List.mem_flatten.1 (List.mem_of_getElem? hp);exact hfree c0 hc0 p hpc
    rw [hr2.fp_nil (fun k l e=>by subst e;simp [PV.free] at hpf)] at hr2;exact hr2
   ·cases hp
  ·intro j u hu;rw [List.getElem?_take] at hu;split at hu
   ·rename_i hj;rw [List.getElem?_drop] at hu;have hlen:0<len:=by
     rcases Nat.eq_zero_or_pos len with h0|h0
     ·subst h0;simp at hj
     ·exact h0
    cases hAA:X.A id with
    | none=>have:=row_nil_of_none hr hAA;omega
    | some z =>
     refine ⟨(baseOf z).add (lo*B.k),by rw [hA1 hlen,hAA];rfl,?_⟩;rw [addr_add_add];exact ((cellsAt_of_row hr hAA).2 _ u hu).1
   ·cases hu
  ·intro hYn _;rw [hyl];rcases Nat.eq_zero_or_pos len with h0|h0
   ·exact h0
   ·rw [hA1 h0] at hYn;cases hAA:X.A id with
    | none=>have:=row_nil_of_none hr hAA;omega
    | some z=>rw [hAA] at hYn;simp at hYn
 ·rename_i q k' l hyy;have hv:=h.ev1 hy (by rw [hyy];simp);rw [hyy] at hv;obtain ⟨ho,hk',hK⟩:=he;refine ⟨_,_,hK,?_⟩;rcases ho with rfl|rfl
  ·generalize a.eval y=v at hv;cases hv with
   | @ro _ _ A c xs hn hkk hl hxs hcc =>
    have hfm:(l.map fun c=>c.map PV.sh).flatten=l.flatten.map PV.sh:=by rw [List.map_flatten]
    refine ⟨A,c,xs,by simp,RCs.of_nofp (by rw [hfm,List.length_map];exact hl) (fun j p u hp hu=>by rw [hfm,List.getElem?_map] at hp;obtain ⟨p',hp',rfl⟩:=Option.map_eq_some_iff.1 hp;exact hcc j p' u hp' hu),fun j u hu => ?_,fun hA _ => ?_⟩
    ·obtain ⟨ad,h1,_,h2⟩:=hxs j u hu;exact ⟨ad,h1,h2⟩
    ·apply Classical.byContradiction;intro hne;rw [List.length_map] at hne;have hk2:k'=k:=by
      rcases hk' with h2|h2
      ·exact h2
      ·subst h2;simp at hne
     have hfl:=flatten_len l hkk;have:0<xs.length:=by
      rw [← hl,hfl,hk2];exact Nat.mul_pos (by omega) (by omega)
     obtain ⟨ad,h1,_⟩:=hxs 0 _ (List.getElem?_eq_getElem this);rw [hA] at h1;cases h1
  ·obtain ⟨A,c,h1,_⟩:=hv.vs_slice;exact ⟨A,c,[],h1,RCs.nil,by simp,fun _ _=>rfl⟩
 ·exact he.elim
theorem sound_app (h:SimW G X F σ (a::acts) w) {t e:TypeId} {i:TypeInfo} {z:Value} {x y:Operand} {x' y':Ix} {k bytes:Nat} (ho:o.op=.call { callee:=.builtin .append,args:=#[x,y],argTypes:=#[t,t] }) (hx:ixOk x x'=true) (hy:ixOk y y'=true)
  (ht:P.underlying t=some (.slice e)) (hi:P.info? e=some i) (hz:i.zero=some z) (hk:i.size=k) (hzs:z.cells.size=k) (hby:i.bytes=bytes) (hk0:0<k) (hb0:0<bytes)
  (he:effK σ b (.app k bytes x' y') K):∃ E,K E∧Outs P G σ acts a o w E:=by
 have he':(match σ.ev1 x' with
  | .ref id 0 len full=>len=full∧σ.blk id full fun B=>B.k=k∧appSrc σ k y' fun ys rd=>(len+ys.length)*bytes≤140737488355328∧(∀ c∈ys,c.length=k) ∧
    K { v:=.r (.one (.ref id 0 (len+ys.length) (len+ys.length))),wh:=[(id,.live { B with kids:=[],l:=B.l++ys })],rd:=id::rd }
  | .vs true _ []=>σ.slot b=.fresh∧appSrc σ k y' fun ys rd=>ys.length*bytes≤140737488355328∧(∀ c∈ys,c.length=k) ∧
    K { v:=.r (.one (.ref b 0 ys.length ys.length)),wh:=[(b,.live ⟨0,k,[],ys⟩)],rd:=rd }
  | _=>False):=he
 clear he;have hexec:(execOp a.eval o).run P w=(match (Builtin.append_ #[t,t] o.type #[a.eval x,a.eval y]).run P w with|.ok v w'=>.ok (.value v) w'|.halt h w=>.halt h w):=by
  simp only [execOp,ho,resolve,invoke,builtin,Sem.run_bind,Sem.run_pure,Result.andThen_ok,List.map_toArray,List.map_cons,List.map_nil];cases (Builtin.append_ #[t,t] o.type #[a.eval x,a.eval y]).run P w<;>rfl
 split at he'
 ·rename_i id len full hxx;have hv:=h.ev1 hx (by rw [hxx];simp);rw [hxx] at hv;obtain ⟨rfl,hblk⟩:=he';obtain ⟨B,hB,hl,hBk,hsrc⟩:=blk_inv hblk;obtain ⟨ys,rd,⟨hbd,hyk,hK⟩,Y,c,news,hYv,hrn,hnews,hY0⟩:=appSrc_rel h hy hk0 hsrc;obtain ⟨hf,_,hlive⟩:=hv.ref_inv;have hid:X.H id=.live B:=by rw [h.hH];exact hB
  obtain ⟨_,h3⟩:=hlive B hid;obtain ⟨hkd,h4,A,c',hv2,hc,hA0,hA1⟩:=h3 hl;obtain ⟨hA,hC⟩:=hA0 rfl;obtain ⟨hcl,xs,hcs,hrow⟩:=h.blk id B hid;obtain ⟨e',hr⟩:∃ e',w.ownsRow 0 e' B.k (.slice ((X.A id).map baseOf) B.l.length (X.C id)) B.l.length xs:=by
   rcases hrow with ⟨_,k2⟩|⟨hne,_⟩
   ·exact k2
   ·exact (hne hkd).elim
  have hnl:news.length=ys.length*k:=by rw [← hrn.1];exact flatten_len ys hyk
  have hsmall:len+ys.length≤140737488355328:=Nat.le_trans (Nat.le_mul_of_pos_right _ hb0) hbd;rw [hBk] at hr;obtain ⟨A',C',w',e2,hrun,hown,hsz,hcase⟩:=run_append_any (P:=P) (t:=t) (ty:=o.type) ht hi hz hk hzs hr hnl hnews (fun hn=>hY0 hn hk0) hrn.oneCell (by rw [hl,hby];exact hbd) (by rw [hl];exact hsmall);have hw':(execOp a.eval o).run P w=.ok (.value (.slice (A'.map baseOf) (len+ys.length) C')) w':=by
   rw [hexec,hv2,hYv,hA,hC,←hl,hrun]
  let B':Blk:={ B with kids:=[],l:=B.l++ys }
  have hB'l:B'.l.length=len+ys.length:=by simp [B',hl]
  have hmem:(∀ g,g<w.heap.size→g∉Own X F id→w'.heap[g]? = w.heap[g]?)∧(∀ g∈F id,w'.heap[g]? = w.heap[g]?)∧Kept G.w0 w' G.own0 G.wins:=by
   rcases hcase with ⟨hA',hC',hw|⟨g,cs,cs',ty,fz,hAg,hg,hss,hw⟩⟩|⟨hA',hm,ob,hw⟩
   ·subst hw;exact ⟨fun _ _ _=>rfl,fun _ _=>rfl,h.kept⟩
   ·subst hw;have hgin:g∈Own X F id:=by simp [Own,hAg]
    have hnd:=h.nd id B hid;refine ⟨fun k _ hk'=>setRow_other w g k cs' (fun e=>hk' (e▸hgin)),fun k hk'=>setRow_other w g k cs' (fun e => ?_),h.kept.setRow hg hss (h.src g ⟨id,B,hid,hgin⟩) (fun x hx hxe => ?_)⟩
    ·subst e;simp only [Own,hAg,Option.map_some,Option.toList_some,List.cons_append,List.nil_append,List.nodup_cons] at hnd;exact hnd.1 hk'
    ·have:=(h.win_id hid hAg hx (by simpa using hxe)).1;rw [hkd] at this;cases this
   ·subst hw;exact ⟨fun k hk' _=>heap_alloc_old w.drew ob k hk',fun k hk'=>heap_alloc_old w.drew ob k (h.lt k ⟨id,B,hid,by simp [Own,hk']⟩),h.kept.drew.alloc ob⟩
  obtain ⟨hm1,hm2,hkept⟩:=hmem;have hs:=h.one (w':=w') id (.live B') A' C' (F id) (by simp) (fun B2 e2=>by
    injection e2 with e2;subst e2;refine .inr ⟨B,hid,?_⟩;rcases hcase with ⟨hA',hC',_⟩|⟨hA',hm,_⟩
    ·rcases Nat.eq_zero_or_pos ys.length with h0|h0
     ·exact .inr ⟨by simp [B',h0],rfl,rfl,hA',hC'⟩
     ·exact .inl (by simp [B'];omega)
    ·exact .inl (by simp [B'];omega))
   (fun B2 e2 g hg=>by
    simp only [lma] at hg;rcases hg with hg|hg
    ·rcases hcase with ⟨hA',hC',_⟩|⟨hA',hm,ob,hw⟩
     ·rw [hA'] at hg;have hin:g∈Own X F id:=by simp only [Own,lma];exact .inl hg
      exact ⟨Nat.lt_of_lt_of_le (h.lt g ⟨id,B,hid,hin⟩) hsz,.inl ⟨B,hid,hin⟩⟩
     ·rw [hA'] at hg;simp at hg;subst hg;subst hw;exact ⟨by simp,.inr (Nat.le_refl _)⟩
    ·have hin:g∈Own X F id:=by simp only [Own,lma];exact .inr hg
     exact ⟨Nat.lt_of_lt_of_le (h.lt g ⟨id,B,hid,hin⟩) hsz,.inl ⟨B,hid,hin⟩⟩)
   (fun B2 e2=>by
    have hnd:=h.nd id B hid;rcases hcase with ⟨hA',hC',_⟩|⟨hA',hm,ob,hw⟩
    ·rw [hA'];exact hnd
    ·rw [hA'];simp only [Option.map_some,Option.toList_some,List.cons_append,List.nil_append,List.nodup_cons];refine ⟨fun hin => ?_,?_⟩
     ·have:=h.lt _ ⟨id,B,hid,show w.heap.size∈Own X F id by simp [Own,hin]⟩;omega
     ·simp only [Own] at hnd;exact (List.nodup_append.1 hnd).2.1)
   hsz (fun g hg hgo=>hm1 g hg (hgo B hid)) hkept
   (fun B2 e2 hX hM=>by
    injection e2 with e2;subst e2;have hro:∀ g,g<w.heap.size→¬ Mut X F g→w'.heap[g]? = w.heap[g]? := fun g hg hn=>hm1 g hg fun hin=>hn (.inr ⟨id,B,hid,hin⟩)
    refine ⟨?_,xs++news,?_,.inl ⟨hkd,e2,?_⟩⟩
    ·intro c hc;simp only [B',lma] at hc;rcases hc with hc|hc
     ·exact hcl c hc
     ·exact (hyk c hc).trans hBk.symm
    ·have q:=(hcs.frame (w':=w') hm2 hro hM hX).append (hrn.frame (w':=w') (by simp) hro hM hX);simpa [B'] using q
    ·simp only [Ctx.upd,upd_same];rw [hB'l];show w'.ownsRow 0 e2 B.k _ _ _;rw [hBk];rw [hl] at hown;exact hown)
   (fun x hx=>by
    obtain ⟨B2,hB2,k1,_⟩:=h.win id x hx;obtain rfl:B=B2:=by rw [hid] at hB2;injection hB2
    rw [hkd] at k1;cases k1)
  refine ⟨_,hK,_,w',.inl hw',_,_,hs,?_⟩;refine .ref (by simp [Ctx.upd,upd_same]) (fun B2 hB2 => ?_) ⟨_,_,rfl⟩;obtain rfl:B'=B2:=by simpa [Ctx.upd,upd_same] using hB2
  refine ⟨by omega,fun _=>⟨hkd,by omega,_,_,rfl,?_,fun _=>by simp [Ctx.upd,upd_same],fun _ => ?_⟩⟩
  ·rcases hown.2 with ⟨h5,h6⟩|⟨g,cap,cur,h5,_,_,hn,_⟩
   ·injection h5 with _ _ h7;omega
   ·injection h5 with _ _ h7;omega
  ·simp only [Ctx.upd,upd_same,Nat.zero_mul];rfl
 ·rename_i k' hxx;have hv:=h.ev1 hx (by rw [hxx];simp);rw [hxx] at hv;obtain ⟨hfr,hsrc⟩:=he';obtain ⟨ys,rd,⟨hbd,hyk,hK⟩,Y,c,news,hYv,hrn,hnews,hY0⟩:=appSrc_rel h hy hk0 hsrc;obtain ⟨ty,xs0,fn,hr0,_,_,hfp⟩:=hv.own_inv;have hnone:(a.eval x).ownBlock=none:=by
   cases hob:(a.eval x).ownBlock with
   | none=>rfl
   | some g=>rw [hob] at hfp;simp at hfp
  have hxv:a.eval x=.slice none 0 0:=by
   rcases hr0.2 with ⟨h1,_⟩|⟨g,cap,cur,h1,_⟩
   ·exact h1
   ·rw [h1] at hnone;simp [Value.ownBlock] at hnone
  have hnl:news.length=ys.length*k:=by rw [← hrn.1];exact flatten_len ys hyk
  have hsmall:ys.length≤140737488355328:=Nat.le_trans (Nat.le_mul_of_pos_right _ hb0) hbd;have hr:w.ownsRow 0 0 k (.slice ((none:Option (Nat×Nat)).map baseOf) 0 0) 0 []:=World.ownsRow_nil w 0 0 k;obtain ⟨A',C',w',e2,hrun,hown,hsz,hcase⟩:=run_append_any (P:=P) (t:=t) (ty:=o.type) ht hi hz hk hzs hr hnl hnews (fun hn=>hY0 hn hk0) hrn.oneCell (by rw [Nat.zero_add,hby];exact hbd) (by rw [Nat.zero_add];exact hsmall);simp only [Nat.zero_add,List.nil_append] at hrun hown;have hw':(execOp a.eval o).run P w=.ok (.value (.slice (A'.map baseOf) ys.length C')) w':=by
   rw [hexec,hxv,hYv];simp only [Option.map_none] at hrun;rw [hrun]
  have hfr':X.H b=.fresh:=by rw [h.hH];exact hfr
  let B':Blk:=⟨0,k,[],ys⟩
  have hmem:(∀ g,g<w.heap.size→w'.heap[g]? = w.heap[g]?)∧Kept G.w0 w' G.own0 G.wins:=by
   rcases hcase with ⟨hA',hC',hw|⟨g,cs,cs',ty,fz,hAg,hg,hss,hw⟩⟩|⟨hA',hm,ob,hw⟩
   ·subst hw;exact ⟨fun _ _=>rfl,h.kept⟩
   ·cases hAg
   ·subst hw;exact ⟨fun k hk'=>heap_alloc_old w.drew ob k hk',h.kept.drew.alloc ob⟩
  have hs:=h.one (w':=w') b (.live B') A' C' [] (by simp) (fun B2 e2=>.inl hfr')
   (fun B2 e2 g hg=>by
    simp only [List.append_nil] at hg;rcases hcase with ⟨hA',hC',_⟩|⟨hA',hm,ob,hw⟩
    ·rw [hA'] at hg;simp at hg
    ·rw [hA'] at hg;simp at hg;subst hg;subst hw;exact ⟨by simp,.inr (Nat.le_refl _)⟩)
   (fun B2 e2=>by cases A'<;>simp) hsz (fun g hg _=>hmem.1 g hg) hmem.2
   (fun B2 e2 hX hM=>by
    injection e2 with e2;subst e2;refine ⟨hyk,news,hrn.frame (w':=w') (by simp) (fun g hg _=>hmem.1 g hg) hM hX,.inl ⟨rfl,e2,?_⟩⟩;simp only [Ctx.upd,upd_same];exact hown)
   (fun x hx=>(h.not_win hfr' x hx).elim)
  refine ⟨_,hK,_,w',.inl hw',_,_,hs,?_⟩;refine .ref (by simp [Ctx.upd,upd_same]) (fun B2 hB2 => ?_) ⟨_,_,rfl⟩;obtain rfl:B'=B2:=by simpa [Ctx.upd,upd_same] using hB2
  refine ⟨Nat.le_refl _,fun _=>⟨rfl,by simp [B'],_,_,rfl,?_,fun _=>by simp [Ctx.upd,upd_same],fun _ => ?_⟩⟩
  ·rcases hown.2 with ⟨h5,h6⟩|⟨g,cap,cur,h5,_,_,hn,_⟩
   ·injection h5 with _ _ h7;omega
   ·injection h5 with _ _ h7;omega
  ·simp only [Ctx.upd,upd_same,Nat.zero_mul];rfl
 ·exact he'.elim
theorem flatten_drop {α:Type} {k:Nat}:∀ (l:List (List α)),(∀ c∈l,c.length=k)→∀ n,(l.drop n).flatten=l.flatten.drop (n*k)
 | [],_,n=>by simp
 | c::l,h,0=>by simp
 | c::l,h,n+1=>by
  have hc:c.length=k:=h c (by simp);simp only [List.drop_succ_cons,List.flatten_cons];rw [flatten_drop l (fun c h'=>h c (by simp [h'])) n,Nat.add_mul,Nat.one_mul,Nat.add_comm (n*k),←hc,←List.drop_drop,List.drop_left]
theorem flatten_take {α:Type} {k:Nat}:∀ (l:List (List α)),(∀ c∈l,c.length=k)→∀ n,(l.take n).flatten=l.flatten.take (n*k)
 | [],_,n=>by simp
 | c::l,h,0=>by simp
 | c::l,h,n+1=>by
  have hc:c.length=k:=h c (by simp);simp only [List.take_succ_cons,List.flatten_cons];rw [flatten_take l (fun c h'=>h c (by simp [h'])) n,Nat.add_mul,Nat.one_mul,Nat.add_comm (n*k),←hc,List.take_length_add_append]
theorem sound_copy (h:SimW G X F σ (a::acts) w) {t t2 e:TypeId} {i:TypeInfo} {x y:Operand} {x' y':Ix} (ho:o.op=.call { callee:=.builtin .copy,args:=#[x,y],argTypes:=#[t,t2] }) (hx:ixOk x x'=true) (hy:ixOk y y'=true)
  (ht:P.underlying t=some (.slice e)) (hi:P.info? e=some i) (hk:i.size=1)
  (he:effK σ b (.copy x' y') K):∃ E,K E∧Outs P G σ acts a o w E:=by
 have he':(match σ.ev1 x' with
  | .ref id lo len full=>σ.blk id full fun B=>B.k=1∧appSrc σ 1 y' fun ys rd=>(∀ c∈ys,c.length=1) ∧
    K { v:=.r (.one (.i .i64 ((min ys.length len:Nat):Int))),wh:=[(id,.live { B with kids:=[],l:=B.l.take lo++ys.take len++B.l.drop (lo+min ys.length len) })],rd:=id::rd }
  | _=>False):=he
 clear he;have hexec:(execOp a.eval o).run P w=(match (Builtin.copy_ #[t,t2] o.type #[a.eval x,a.eval y]).run P w with|.ok v w'=>.ok (.value v) w'|.halt h w=>.halt h w):=by
  simp only [execOp,ho,resolve,invoke,builtin,Sem.run_bind,Sem.run_pure,Result.andThen_ok,List.map_toArray,List.map_cons,List.map_nil];cases (Builtin.copy_ #[t,t2] o.type #[a.eval x,a.eval y]).run P w<;>rfl
 have hsz1:(P.info? e).map (·.size)=some 1:=by rw [hi];simp [hk]
 split at he'
 case h_2=>exact he'.elim
 rename_i id lo len full hxx;have hv:=h.ev1 hx (by rw [hxx];simp);rw [hxx] at hv;obtain ⟨B,hB,hl,hBk,hsrc⟩:=blk_inv he';obtain ⟨ys,rd,⟨hyk,hK⟩,Y,c,news,hYv,hrn,hnews,hY0⟩:=appSrc_rel h hy (by decide) hsrc;obtain ⟨hf,_,hlive⟩:=hv.ref_inv;have hid:X.H id=.live B:=by rw [h.hH];exact hB
 obtain ⟨_,h3⟩:=hlive B hid;obtain ⟨hkd,h4,A,c',hv2,hc,hA0,hA1⟩:=h3 hl;obtain ⟨hcl,xs,hcs,hrow⟩:=h.blk id B hid;obtain ⟨e',hr⟩:∃ e',w.ownsRow 0 e' B.k (.slice ((X.A id).map baseOf) B.l.length (X.C id)) B.l.length xs:=by
  rcases hrow with ⟨_,k2⟩|⟨hne,_⟩
  ·exact k2
  ·exact (hne hkd).elim
 have hnl:news.length=ys.length:=by rw [← hrn.1,flatten_len ys hyk,Nat.mul_one]
 have hxl:xs.length=B.l.length:=by rw [hr.1,hBk,Nat.mul_one]
 let m:=min ys.length len
 let B':Blk:={ B with kids:=[],l:=B.l.take lo++ys.take len++B.l.drop (lo+m) }
 have hB'l:B'.l.length=B.l.length:=by simp [B',m];omega
 have hB'f:B'.l.flatten=B.l.flatten.take lo++ys.flatten.take m++B.l.flatten.drop (lo+m):=by
  have e1:=flatten_take B.l hcl lo;have e2:=flatten_drop B.l hcl (lo+m);have e3:=flatten_take ys hyk len;rw [hBk,Nat.mul_one] at e1 e2;rw [Nat.mul_one] at e3;have e4:ys.flatten.take len=ys.flatten.take m:=by
   have:ys.flatten.length=ys.length:=by rw [flatten_len ys hyk,Nat.mul_one]
   rw [List.take_eq_take_iff];simp [m,this];omega
  simp only [B',List.flatten_append,e1,e2,e3,e4]
 obtain ⟨f1,f2,f3,hF,hc1,hc2,hc3⟩:=hcs.parts lo m;have hfsub:∀ g∈f1++f3,g∈F id:=by
  intro g hg;rw [hF];simp only [lma] at hg ⊢;rcases hg with hg|hg
  ·exact .inl (.inl hg)
  ·exact .inr hg
 have hnd:=h.nd id B hid;have key:∀ (w':World),(Builtin.copy_ #[t,t2] o.type #[a.eval x,a.eval y]).run P w=.ok (goInt m) w'→w.heap.size=w'.heap.size→(∀ g,(∀ z,X.A id=some z→g≠z.1)→w'.heap[g]? = w.heap[g]?)→Kept G.w0 w' G.own0 G.wins →
   (∃ e2,w'.ownsRow 0 e2 B.k (.slice ((X.A id).map baseOf) B.l.length (X.C id)) B.l.length (xs.take lo++news.take m++xs.drop (lo+m)))→∃ E,K E∧Outs P G σ acts a o w E:=by
  intro w' hrun hsz hmem hkept hown;have hm2:∀ g∈F id,w'.heap[g]? = w.heap[g]? := fun g hg=>hmem g fun z hz e=>by
   subst e;simp only [Own,hz,Option.map_some,Option.toList_some,List.cons_append,List.nil_append,List.nodup_cons] at hnd;exact hnd.1 hg
  have hm1:∀ g,g∉Own X F id→w'.heap[g]? = w.heap[g]? := fun g hg=>hmem g fun z hz e=>hg (by simp [Own,hz,e])
  have hs:=h.one (w':=w') id (.live B') (X.A id) (X.C id) (f1++f3) (by simp) (fun B2 e2=>by
    injection e2 with e2;subst e2;exact .inr ⟨B,hid,.inr ⟨hB'l.symm,rfl,rfl,rfl,rfl⟩⟩)
   (fun B2 e2 g hg=>by
    have hin:g∈Own X F id:=by
     simp only [Own,lma] at hg ⊢;rcases hg with hg|hg
     ·exact .inl hg
     ·exact .inr (hfsub g (lma.2 hg))
    exact ⟨by rw [← hsz];exact h.lt g ⟨id,B,hid,hin⟩,.inl ⟨B,hid,hin⟩⟩)
   (fun B2 e2=>by
    have hnd':(((X.A id).map (·.1)).toList++(f1++f2++f3)).Nodup:=by rw [← hF];exact hnd
    refine hnd'.sublist (List.Sublist.append (List.Sublist.refl _) ?_);exact List.Sublist.append (List.sublist_append_left _ _) (List.Sublist.refl _))
   (Nat.le_of_eq hsz) (fun g hg hgo=>hm1 g (hgo B hid)) hkept
   (fun B2 e2 hX hM=>by
    injection e2 with e2;subst e2;have hro:∀ g,g<w.heap.size→¬ Mut X F g→w'.heap[g]? = w.heap[g]? := fun g hg hn=>hm1 g fun hin=>hn (.inr ⟨id,B,hid,hin⟩)
    obtain ⟨e2,hown⟩:=hown;refine ⟨?_,xs.take lo++news.take m++xs.drop (lo+m),?_,.inl ⟨hkd,e2,?_⟩⟩
    ·intro c hc;simp only [B',lma] at hc;rcases hc with (hc|hc)|hc
     ·exact hcl c (List.mem_of_mem_take hc)
     ·exact (hyk c (List.mem_of_mem_take hc)).trans hBk.symm
     ·exact hcl c (List.mem_of_mem_drop hc)
    ·rw [hB'f];obtain ⟨g1,g2,g3,hG,hn1,_,_⟩:=hrn.parts m 0;have hg1:g1=[]:=by
      have:([]:List Nat)=g1++g2++g3:=hG;cases g1 with
      | nil=>rfl
      | cons=>simp at this
     subst hg1;have q1:=hc1.frame (w':=w') (fun g hg=>hm2 g (hfsub g (by simp [hg]))) hro hM hX;have q2:=hn1.frame (w':=w') (by simp) hro hM hX;have q3:=hc3.frame (w':=w') (fun g hg=>hm2 g (hfsub g (by simp [hg]))) hro hM hX;have:=(q1.append q2).append q3;simpa using this
    ·simp only [Ctx.upd,upd_same];rw [hB'l];exact hown)
   (fun x hx=>by
    obtain ⟨B2,hB2,k1,_⟩:=h.win id x hx;obtain rfl:B=B2:=by rw [hid] at hB2;injection hB2
    rw [hkd] at k1;cases k1)
  refine ⟨_,hK,_,w',.inl (by rw [hexec,hrun]),_,_,hs,?_⟩;exact .i
 by_cases hz:m=0
 ·have hrun:=run_copy_none (P:=P) w t t2 o.type e A Y len c' ys.length c ht hsz1 hz;have hx0:xs.take lo++news.take m++xs.drop (lo+m)=xs:=by rw [hz];simp
  refine key w (by rw [hv2,hYv,hrun,hz];rfl) rfl (fun _ _=>rfl) h.kept ⟨e',?_⟩;rw [hx0];exact hr
 ·have hz':min ys.length len≠0:=hz;have hlen:0<len:=by omega
  have hyl:0<ys.length:=by omega
  obtain ⟨u0,hu0⟩:∃ u,news[0]? = some u:=⟨_,List.getElem?_eq_getElem (by omega)⟩
  obtain ⟨ad,rfl,_⟩:=hnews 0 u0 hu0;rcases hr.2 with ⟨_,h0⟩|⟨g,cap,cur,hsl,hg0,hg,hle,hcm,hcs2,htk⟩
  ·omega
  ·injection hsl with hs1 hs2 hs3;cases hAA:X.A id with
   | none=>rw [hAA] at hs1;cases hs1
   | some z =>
    rw [hAA] at hs1;simp only [Option.map_some,osi] at hs1;have hz1:z.1=g∧z.2=0:=by
     unfold baseOf at hs1;injection hs1 with q1 q2 q3;exact ⟨q1,q2⟩
    have hA:=hA1 hlen;rw [hAA,hBk,Nat.mul_one] at hA;have hAe:A=some ⟨g,lo,none⟩:=by
     rw [hA];show some ((baseOf z).add lo)=_;rw [hs1];unfold Addr.add;split<;>simp_all
    rw [hBk,Nat.mul_one] at hcs2 htk;have hml:(news.take m).length=m:=by simp [m];omega
    have hrun:=run_copy_row (P:=P) w t t2 o.type e g lo len c' ad ys.length c cur e' (news.take m) ht hsz1 hg (by rw [hml]) (fun j v hj=>by
      rw [List.getElem?_take] at hj;split at hj
      ·obtain ⟨ad',h5,h6⟩:=hnews j v hj;injection h5 with h5;subst h5;exact h6
      ·cases hj) (by rw [hml,hcs2];simp [m];omega) (fun v hv=>hrn.oneCell v (List.mem_of_mem_take hv))
    rw [hml] at hrun;have hclen:cur.toList.length=cap:=by simp [hcs2]
    have hgin:g∈Own X F id:=by simp [Own,hAA,hz1.1]
    have hcap:lo+m≤cap:=by simp [m];omega
    refine key _ (by rw [hv2,hYv,hAe,hrun]) (by simp) (fun k hk=>setRow_other w g k _ (hk z hAA∘fun e=>e.trans hz1.1.symm)) (h.kept.setRow hg (by simp [hml];try omega) (h.src g ⟨id,B,hid,hgin⟩) (fun x hx hxe => ?_)) ⟨e',?_⟩
    ·obtain ⟨i0,hi0⟩:=List.getElem?_of_mem hx;obtain ⟨B2,hB2,k1,k2,_⟩:=h.win i0 x hi0;have hxo:x.1∈Own X F i0:=by simp [Own,k2]
     by_cases e:i0=id
     ·subst e;rw [hid] at hB2;injection hB2 with hB2;subst hB2;rw [hkd] at k1;cases k1
     ·exact (h.dj i0 id B2 B hB2 hid e x.1 hxo (by rw [hxe];exact hgin)).elim
    ·rw [hBk];refine ⟨by simp [hml,hxl];omega,.inr ⟨g,cap,_,by rw [hAA];simp [hs1,hs3],hg0,setRow_heap w g cur _ e' (0,0) hg,hle,hcm,by simp [hml];omega,?_⟩⟩;rw [Nat.mul_one];have hxt:xs=cur.toList.take B.l.length:=htk.symm;rw [hxt];have a1:min lo cap=lo:=by omega
     have a2:min B.l.length cap=B.l.length:=by omega
     have a3:min lo B.l.length=lo:=by omega
     have a4:min m ys.length=m:=by omega
     simp only;apply List.ext_getElem?;intro q;simp only [List.getElem?_take,List.getElem?_append,List.getElem?_drop,List.length_append,List.length_take,List.length_drop,hml,hclen,hnl,a1,a2,a3,a4];by_cases q1:q<lo+m
     ·have:q<B.l.length:=by omega
      simp only [q1,this,if_true]
     ·simp only [q1,if_false];rw [show lo+m+(q-(lo+m))=q by omega]
end
section
variable {P:Program} {G:Fr} {X:Ctx} {F:Nat→List Nat} {σ:St} {a:Act} {acts:List Act} {w:World} {M:Nat→Prop} {o:Oper} {b:Nat} {K:Eff→Prop}
theorem sound_mkf (h:SimW G X F σ (a::acts) w) {f:FuncId} {l:Array Operand} {m:List Ix} (ho:o.op=.makeFunc (.func f) #[] l) (hl:l.size=m.length) (hx:∀ (j:Nat) (x:Operand) (y:Ix),l.toList[j]? = some x→m[j]? = some y→ixOk x y=true)
  (he:effK σ b (.mkf f m) K):∃ E,K E∧Outs P G σ acts a o w E:=by
 simp only [effK] at he;obtain ⟨hn,he⟩:=he;have hr:=evs_rel h (l:=l.toList) (m:=m) hn (by simpa using hl) hx;refine ⟨_,he,.quiet h (v:=.func (.func f) #[] (l.toList.map a.eval).toArray) ?_ (.fn hr.1 fun i p u hp hu=>hr.get_nofp i p u hp hu)⟩;have:l.map a.eval=(l.toList.map a.eval).toArray:=by rw [← Array.toList_map]
 simp [execOp,ho,Instr.makeFunc,this]
def slcBd (σ:St) (o:Option Ix) (dflt:Nat) (K':Nat→Prop):Prop :=
 match o with
 | none=>K' dflt
 | some y=>match σ.ev1 y with
  | .i _ n=>0≤n∧K' n.toNat
  | _=>False
def optIx:Option Operand→Option Ix→Bool
 | none,none=>true
 | some x,some y=>ixOk x y
 | _,_=>false
def BdR (v:Option Value) (dflt n:Nat):Prop:=(v=none∧n=dflt)∨∃ k,v=some (.int k (n:Int))
theorem slcBd_rel (h:SimW G X F σ (a::acts) w) {x:Option Operand} {y:Option Ix} (hx:optIx x y=true) {dflt:Nat} {K':Nat→Prop} (he:slcBd σ y dflt K'):∃ n,K' n∧BdR (x.map a.eval) dflt n:=by
 cases x<;>cases y<;>simp [optIx] at hx
 ·exact ⟨dflt,he,.inl ⟨rfl,rfl⟩⟩
 ·rename_i x y;simp only [slcBd] at he;split at he
  ·rename_i k n hy;have hv:=h.ev1 hx (by rw [hy];simp);rw [hy] at hv;obtain ⟨h0,hK⟩:=he;obtain ⟨m,rfl⟩:=Int.eq_ofNat_of_zero_le h0;exact ⟨m,by simpa using hK,.inr ⟨k,by simp [hv.i_inv]⟩⟩
  ·exact he.elim
theorem run_slc {t e:TypeId} {i:TypeInfo} {k:Nat} (ht:P.underlying t=some (.slice e)) (hi:P.info? e=some i) (hk:i.size=k) {A:Option Addr} {len c l h:Nat} {lo hi':Option Value} (hlo:BdR lo 0 l) (hhi:BdR hi' len h) (h1:l≤h) (h2:h≤len) (h3:len≤c) :
  (Instr.sliceAt t (.slice A len c) lo hi' none).run P w=.ok (.slice (if c=l then A else A.map (·.add (l*k))) (h-l) (c-l)) w:=by
 have hb:(Instr.sliceBounds true len c lo hi' none).run P w=.ok (l,h,c) w:=by
  rcases hlo with ⟨rfl,rfl⟩|⟨kl,rfl⟩<;>rcases hhi with ⟨rfl,rfl⟩|⟨kh,rfl⟩
  ·simp [Instr.sliceBounds]
  ·have q1:h≤c:=by omega
   simp [Instr.sliceBounds,Instr.sliceBound,asIntOf,q1]
  ·simp [Instr.sliceBounds,Instr.sliceBound,asIntOf,h1]
  ·have q1:h≤c:=by omega
   simp [Instr.sliceBounds,Instr.sliceBound,asIntOf,q1,h1]
 simp [Instr.sliceAt,Instr.slice,underlying,ht,hb,sizeOf,typeInfo,hi,hk]
theorem sound_slc (h:SimW G X F σ (a::acts) w) {t e:TypeId} {i:TypeInfo} {k:Nat} {x:Operand} {x':Ix} {lo hi:Option Operand} {lo' hi':Option Ix} (ho:o.op=.slice t x lo hi none) (hx:ixOk x x'=true) (hlo:optIx lo lo'=true) (hhi:optIx hi hi'=true)
  (ht:P.underlying t=some (.slice e)) (hi0:P.info? e=some i) (hk:i.size=k) (he:effK σ b (.slc k x' lo' hi') K):∃ E,K E∧Outs P G σ acts a o w E:=by
 have he':(match σ.ev1 x' with
  | .ref id l0 len full=>σ.blk id full fun B=>B.k=k∧slcBd σ hi' len fun h=>slcBd σ lo' 0 fun l=>l≤h∧h≤len∧K { v:=.r (.one (.ref id (l0+l) (h-l) full)),rd:=[id] }
  | .vs o k' l0=>(o=false∨l0=[])∧(k'=k∨l0=[])∧slcBd σ hi' l0.length fun h=>slcBd σ lo' 0 fun l=>l≤h∧h≤l0.length∧K { v:=.r (.one (.vs false k ((l0.drop l).take (h-l)))) }
  | _=>False):=he
 clear he;have hexec:∀ v w',(Instr.sliceAt t (a.eval x) (lo.map a.eval) (hi.map a.eval) none).run P w=.ok v w'→(execOp a.eval o).run P w=.ok (.value v) w':=by
  intro v w' hv;simp [execOp,ho,hv]
 split at he'
 ·rename_i id l0 len full hxx;have hv:=h.ev1 hx (by rw [hxx];simp);rw [hxx] at hv;obtain ⟨B,hB,hl,hBk,hh⟩:=blk_inv he';obtain ⟨hn,hh,hbh⟩:=slcBd_rel h hhi hh;obtain ⟨ln,hK,hbl⟩:=slcBd_rel h hlo hh;obtain ⟨h1,h2,hK⟩:=hK;obtain ⟨hf,_,hlive⟩:=hv.ref_inv;have hid:X.H id=.live B:=by rw [h.hH];exact hB
  obtain ⟨hle,h3⟩:=hlive B hid;obtain ⟨hkd,h4,A,c,hv2,hc,hA0,hA1⟩:=h3 hl;have hrun:=run_slc (P:=P) (w:=w) ht hi0 hk (A:=A) hbl hbh h1 h2 hc;rw [← hv2] at hrun;refine ⟨_,hK,.quiet h (hexec _ _ hrun) ?_⟩;refine .ref hf (fun B' hB' => ?_) ⟨_,_,rfl⟩;obtain rfl:B=B':=by rw [hid] at hB';injection hB'
  refine ⟨hle,fun _=>⟨hkd,by omega,_,_,rfl,by omega,fun h0 => ?_,fun h0 => ?_⟩⟩
  ·obtain ⟨rfl,rfl⟩:l0=0∧ln=0:=by omega
   obtain ⟨e1,e2⟩:=hA0 rfl;refine ⟨?_,by omega⟩;split
   ·exact e1
   ·rw [← e1];cases A<;>simp [Addr.add]
  ·rw [if_neg (by omega),hA1 (by omega),hBk];cases X.A id with
   | none=>rfl
   | some z=>simp [addr_add_add,Nat.add_mul]
 ·rename_i q k' l0 hxx;have hv:=h.ev1 hx (by rw [hxx];simp);rw [hxx] at hv;obtain ⟨hq,hk',hh⟩:=he';obtain ⟨hn,hh,hbh⟩:=slcBd_rel h hhi hh;obtain ⟨ln,hK,hbl⟩:=slcBd_rel h hlo hh;obtain ⟨h1,h2,hK⟩:=hK;rcases hq with rfl|rfl
  ·generalize hvv:a.eval x=v at hv;cases hv with
   | @ro _ _ A c xs hnc hkk hl hxs hcc =>
    have hrun:=run_slc (P:=P) (w:=w) ht hi0 hk (A:=A) hbl hbh h1 h2 hnc;rw [← hvv] at hrun;refine ⟨_,hK,.quiet h (hexec _ _ hrun) ?_⟩;have hlen:((l0.drop ln).take (hn-ln)).length=hn-ln:=by simp;omega
    suffices hs:RC w (Mut X F) X (.vs false k ((l0.drop ln).take (hn-ln))) (.slice (if c=ln then A else A.map (·.add (ln*k))) ((l0.drop ln).take (hn-ln)).length (c-ln)) [] by
     rw [hlen] at hs;exact hs
    rcases hk' with rfl|rfl
    ·have hfl:=flatten_len l0 hkk;have hsub:∀ c∈(l0.drop ln).take (hn-ln),c.length=k':=fun c hc=>hkk c (List.mem_of_mem_drop (List.mem_of_mem_take hc))
     have hget:∀ j,((l0.drop ln).take (hn-ln)).flatten[j]? = if j<(hn-ln)*k' then l0.flatten[ln*k'+j]? else none:=by
      intro j;by_cases hj:j<(hn-ln)*k'
      ·rw [if_pos hj];have hk0:0<k':=by
        rcases Nat.eq_zero_or_pos k' with h0|h0
        ·subst h0;simp at hj
        ·exact h0
       have hm:=Nat.mod_lt j hk0;have hd:j/k'*k'+j % k'=j:=by have:=Nat.div_add_mod j k';rw [Nat.mul_comm] at this;exact this
       have hdl:j/k'<hn-ln:=Nat.div_lt_of_lt_mul (by rw [Nat.mul_comm];exact hj);rw [← hd,flatten_get _ hsub _ _ hm,←Nat.add_assoc,←Nat.add_mul,flatten_get _ hkk _ _ hm];rw [List.getElem?_take,if_pos hdl,List.getElem?_drop]
      ·rw [if_neg hj,List.getElem?_eq_none];rw [flatten_len _ hsub,hlen];omega
     refine .ro (c:=c-ln) (xs:=(xs.drop (ln*k')).take ((hn-ln)*k')) (by rw [hlen];omega) hsub ?_ (fun j u hu => ?_) fun j p u hp hu => ?_
     ·rw [flatten_len _ hsub,hlen,List.length_take,List.length_drop,←hl,hfl];have:hn*k'≤l0.length*k':=Nat.mul_le_mul_right _ h2;have h5:(hn-ln)*k'+ln*k'=hn*k':=by rw [← Nat.add_mul];congr 1;omega
      omega
     ·rw [List.getElem?_take] at hu;split at hu
      ·rename_i hj;rw [List.getElem?_drop] at hu;obtain ⟨ad,e1,e2,e3⟩:=hxs _ u hu;have hne:¬ (c=ln):=by
        intro e;have:hn-ln=0:=by omega
        rw [this] at hj;simp at hj
       refine ⟨ad.add (ln*k'),by rw [if_neg hne,e1];rfl,?_,?_⟩
       ·have hb:(ad.add (ln*k')).block=ad.block:=by unfold Addr.add;split<;>rfl
        rw [hb];exact e2
       ·rw [addr_add_add];exact e3
      ·cases hu
     ·rw [hget] at hp;rw [List.getElem?_take] at hu;split at hp
      ·rename_i hj;rw [if_pos hj,List.getElem?_drop] at hu;exact hcc _ p u hp hu
      ·cases hp
    ·simp only [List.drop_nil,List.take_nil];exact .ro (xs:=[]) (by simp) (by simp) rfl (by simp) (by simp)
  ·obtain ⟨A,c,hvv,hc⟩:=hv.vs_slice;simp only [List.length_nil] at h2 hbh hvv hc;have hrun:=run_slc (P:=P) (w:=w) ht hi0 hk (A:=A) hbl hbh h1 h2 hc;rw [← hvv] at hrun;refine ⟨_,hK,.quiet h (hexec _ _ hrun) ?_⟩;have h0:hn-ln=0:=by omega
   rw [h0];simp only [List.drop_nil,List.take_nil];exact RC.ro (l:=[]) (xs:=[]) (by simp) (by simp) rfl (by simp) (by simp)
 ·exact he'.elim
end
def plainFs (P:Program) (g:TypeId→Option (List (Option IntKind))):List Field→Nat→Option (List (Option IntKind))
 | [],_=>some []
 | f :: fs, off => if f.name == "_" || f.offset != off then none else
  match g f.type,P.info? f.type with
  | some ks,some i=>if i.size==ks.length then (plainFs P g fs (off+ks.length)).map (ks++·) else none
  | _,_=>none
def plainK (P:Program):Nat→TypeId→Option (List (Option IntKind))
 | 0,_=>none
 | d+1,t=>match P.underlying t with
  | some (.int k)=>some [some k]
  | some .bool=>some [none]
  | some (.struct fs)=>if P.stoodInHeld t then none else plainFs P (plainK P d) fs.toList 0
  | _=>none
def valOf (P:Program) (t:TypeId) (xs:List Value):Value :=
 match P.underlying t with
 | some (.struct _)=>.agg xs.toArray
 | _=>xs.headD undef
section
variable {P:Program} {G:Fr} {X:Ctx} {F:Nat→List Nat} {σ:St} {a:Act} {acts:List Act} {w:World} {M:Nat→Prop} {o:Oper} {b:Nat} {K:Eff→Prop}
def eqC:List (Option IntKind)→List PV→List PV→Option Bool
 | [],[],[]=>some true
 | some q::ks,.i k x::l,.i k' y::m=>if k=q∧k'=q then (eqC ks l m).map fun r=>(x==y)&&r else none
 | none::ks,.b x::l,.b y::m=>(eqC ks l m).map fun r=>(x==y)&&r
 | _,_,_=>none
theorem eqCells_iff (ks:List (Option IntKind)):∀ (l m:List PV) (K:Bool→Prop),eqCells ks l m K→∃ r,eqC ks l m=some r∧K r:=by
 induction ks with
 | nil =>
  intro l m K h;cases l<;>cases m<;>simp only [eqCells] at h;exact ⟨true,rfl,h⟩
 | cons q ks ih =>
  intro l m K h;cases l with
  | nil=>cases q<;>simp [eqCells] at h
  | cons p l =>
   cases m with
   | nil=>cases q<;>cases p<;>simp [eqCells] at h
   | cons p' m =>
    cases q<;>cases p<;>cases p'<;>first
     | (simp only [eqCells] at h;done)
     | (simp only [eqCells] at h;obtain ⟨e1,e2,h⟩:=h;obtain ⟨r,h1,h2⟩:=ih l m _ h;exact ⟨_,by simp [eqC,e1,e2,h1],h2⟩)
     | (simp only [eqCells] at h;obtain ⟨r,h1,h2⟩:=ih l m _ h;exact ⟨_,by simp [eqC,h1],h2⟩)
theorem eqC_len (ks:List (Option IntKind)):∀ (l m:List PV) (r:Bool),eqC ks l m=some r→l.length=ks.length∧m.length=ks.length:=by
 induction ks with
 | nil=>intro l m r h;cases l<;>cases m<;>simp [eqC] at h ⊢
 | cons q ks ih =>
  intro l m r h;cases l with
  | nil=>cases q<;>simp [eqC] at h
  | cons p l =>
   cases m with
   | nil=>cases q<;>cases p<;>simp [eqC] at h
   | cons p' m =>
    cases q<;>cases p<;>cases p'<;>simp only [eqC,reduceCtorEq] at h
    ·obtain ⟨r0,h1,_⟩:=Option.map_eq_some_iff.1 h;have:=ih l m r0 h1;simp [this.1,this.2]
    ·split at h
     ·obtain ⟨r0,h1,_⟩:=Option.map_eq_some_iff.1 h;have:=ih l m r0 h1;simp [this.1,this.2]
     ·cases h
theorem eqC_append (ks1:List (Option IntKind)):∀ (ks2:List (Option IntKind)) (l m:List PV) (r:Bool),eqC (ks1++ks2) l m=some r →
  ∃ r1 r2,eqC ks1 (l.take ks1.length) (m.take ks1.length)=some r1∧eqC ks2 (l.drop ks1.length) (m.drop ks1.length)=some r2∧r=(r1&&r2):=by
 induction ks1 with
 | nil=>intro ks2 l m r h;exact ⟨true,r,rfl,by simpa using h,by simp⟩
 | cons q ks1 ih =>
  intro ks2 l m r h;cases l with
  | nil=>cases q<;>simp [eqC] at h
  | cons p l =>
   cases m with
   | nil=>cases q<;>cases p<;>simp [eqC] at h
   | cons p' m =>
    cases q<;>cases p<;>cases p'<;>simp only [List.cons_append,eqC,reduceCtorEq] at h
    ·obtain ⟨r0,h1,rfl⟩:=Option.map_eq_some_iff.1 h;obtain ⟨r1,r2,e1,e2,rfl⟩:=ih ks2 l m r0 h1;exact ⟨_,r2,by simp [eqC,e1];rfl,by simpa using e2,by simp [Bool.and_assoc]⟩
    ·split at h
     ·rename_i hk;obtain ⟨r0,h1,rfl⟩:=Option.map_eq_some_iff.1 h;obtain ⟨r1,r2,e1,e2,rfl⟩:=ih ks2 l m r0 h1;exact ⟨_,r2,by simp [eqC,e1,hk.1,hk.2];rfl,by simpa using e2,by simp [Bool.and_assoc]⟩
     ·cases h
theorem plainK_cases {d:Nat} {t:TypeId} {ks:List (Option IntKind)} (h:plainK P (d+1) t=some ks):(∃ k,P.underlying t=some (.int k)∧ks=[some k])∨(P.underlying t=some .bool∧ks=[none])∨∃ fs,P.underlying t=some (.struct fs)∧P.stoodInHeld t=false∧plainFs P (plainK P d) fs.toList 0=some ks:=by
 unfold plainK at h;split at h
 ·rename_i k hk;simp at h;exact .inl ⟨k,hk,h.symm⟩
 ·rename_i hk;simp at h;exact .inr (.inl ⟨hk,h.symm⟩)
 ·rename_i fs hk;split at h
  ·cases h
  ·rename_i hs;exact .inr (.inr ⟨fs,hk,by simpa using hs,h⟩)
 ·cases h
theorem run_part {d:Nat} {t:TypeId} {ks:List (Option IntKind)} {i:TypeInfo} (h:plainK P d t=some ks) (hi:P.info? t=some i) (hn:i.size=ks.length) {xs:List Value} {off:Nat} (hl:off+ks.length≤xs.length) :
  (part t xs.toArray off).run P w=.ok (valOf P t ((xs.drop off).take ks.length)) w:=by
 cases d with
 | zero=>simp [plainK] at h
 | succ d =>
  have hone:∀ (_:off<xs.length),(xs.drop off).take 1=[xs[off]]:=by
   intro hlt;rw [List.drop_eq_getElem_cons hlt,List.take_succ_cons,List.take_zero]
  rcases plainK_cases h with ⟨k,hu,rfl⟩|⟨hu,rfl⟩|⟨fs,hu,_,_⟩
  ·have hlt:off<xs.length:=by simp at hl;omega
   simp only [List.length_cons,List.length_nil,Nat.zero_add];rw [hone hlt];simp [part,run_isAgg hu,descAgg,valOf,hu,hlt]
  ·have hlt:off<xs.length:=by simp at hl;omega
   simp only [List.length_cons,List.length_nil,Nat.zero_add];rw [hone hlt];simp [part,run_isAgg hu,descAgg,valOf,hu,hlt]
  ·simp [part,run_isAgg hu,descAgg,valOf,hu,sizeOf,typeInfo,hi,hn,List.take_drop]
theorem eqf_nil {d:Nat} {xs ys:Array Value}:(Op.eqFields d xs ys []).run P w=.ok true w:=by simp [Op.eqFields]
theorem eqf_cons {d : Nat} {xs ys : Array Value} {f : Field} {fs : List Field} {u v : Value} {r s : Bool} (hn : (f.name == "_") = false) (ha : (part f.type xs f.offset).run P w = .ok u w) (hb : (part f.type ys f.offset).run P w = .ok v w)
  (he:(Op.equalIn d f.type u v).run P w=.ok r w) (hr:(Op.eqFields d xs ys fs).run P w=.ok s w):(Op.eqFields d xs ys (f::fs)).run P w=.ok (r&&s) w:=by
 have hn' : f.name ≠ "_" := by simpa using hn
 rw [Op.eqFields];simp only [if_pos hn',Sem.run_bind,ha,hb,he,Result.andThen_ok];cases r
 ·simp
 ·simpa using hr
theorem eq_plain:∀ (d:Nat) (t:TypeId) (ks:List (Option IntKind)),plainK P d t=some ks→∀ (l m:List PV) (r:Bool) (xs ys:List Value),RCs w M X l xs []→RCs w M X m ys []→eqC ks l m=some r →
  ∀ q,(Op.equalIn (d+q) t (valOf P t xs) (valOf P t ys)).run P w=.ok r w
 | 0,t,ks,h=>by simp [plainK] at h
 | d+1,t,ks,h=>by
  intro l m r xs ys hx hy he q;obtain ⟨hl,hm⟩:=eqC_len ks l m r he;rcases plainK_cases h with ⟨k,hu,rfl⟩|⟨hu,rfl⟩|⟨fs,hu,hs,hf⟩;all_goals rw [show d+1+q=(d+q)+1 by omega]
  ·obtain ⟨p,rfl⟩:=List.length_eq_one_iff.1 hl;obtain ⟨p',rfl⟩:=List.length_eq_one_iff.1 hm;obtain ⟨x,rfl⟩:=List.length_eq_one_iff.1 (hx.1.symm.trans hl);obtain ⟨y,rfl⟩:=List.length_eq_one_iff.1 (hy.1.symm.trans hm);have hx0:=hx.get_nofp 0 p x rfl rfl;have hy0:=hy.get_nofp 0 p' y rfl rfl;cases p<;>cases p'<;>simp only [eqC,reduceCtorEq] at he;split at he
   ·rename_i hk;obtain ⟨rfl,rfl⟩:=hk;simp only [Option.map_some,osi,Bool.and_true] at he;rw [hx0.i_inv,hy0.i_inv];subst he;simp only [valOf,hu,List.headD_cons];exact run_equalIn_int w _ t _ _ _ _ hu
   ·cases he
  ·obtain ⟨p,rfl⟩:=List.length_eq_one_iff.1 hl;obtain ⟨p',rfl⟩:=List.length_eq_one_iff.1 hm;obtain ⟨x,rfl⟩:=List.length_eq_one_iff.1 (hx.1.symm.trans hl);obtain ⟨y,rfl⟩:=List.length_eq_one_iff.1 (hy.1.symm.trans hm);have hx0:=hx.get_nofp 0 p x rfl rfl;have hy0:=hy.get_nofp 0 p' y rfl rfl;cases p<;>cases p'<;>simp only [eqC,reduceCtorEq,Option.map_some,osi,Bool.and_true] at he;rw [hx0.b_inv,hy0.b_inv];subst he;simp only [valOf,hu,List.headD_cons];exact run_equalIn_bool' w _ t _ _ hu
  ·have hfo:P.fieldsOf t=fs:=by simp [Program.fieldsOf,hu]
   have hval:∀ zs,valOf P t zs=.agg zs.toArray:=by intro zs;simp [valOf,hu]
   rw [hval,hval,run_equalIn_struct (P:=P) w (d+q) t xs.toArray ys.toArray (by rw [hfo];exact hu) hs,hfo];have key:∀ (fs:List Field) (off:Nat) (ks:List (Option IntKind)) (r:Bool),plainFs P (plainK P d) fs off=some ks→off+ks.length≤l.length→off+ks.length≤m.length→eqC ks ((l.drop off).take ks.length) ((m.drop off).take ks.length)=some r →
     (Op.eqFields (d+q) xs.toArray ys.toArray fs).run P w=.ok r w:=by
    intro fs;induction fs with
    | nil =>
     intro off ks r hp _ _ he;simp [plainFs] at hp;subst hp;simp [eqC] at he;subst he;exact eqf_nil
    | cons f fs ih =>
     intro off ks r hp hlo hmo he;unfold plainFs at hp;split at hp
     ·cases hp
     ·rename_i hnm;simp only [Bool.or_eq_true,bne_iff_ne,not_or,ne_eq,Decidable.not_not,Bool.not_eq_true] at hnm;split at hp
      ·rename_i k1 i hk1 hi;split at hp
       ·rename_i hsz;obtain ⟨k2,hp2,rfl⟩:=Option.map_eq_some_iff.1 hp;simp only [List.length_append] at hlo hmo he;obtain ⟨r1,r2,e1,e2,rfl⟩:=eqC_append k1 k2 _ _ r he;have hsz':i.size=k1.length:=by simpa using hsz
        have ht:∀ (z:List PV),(((z.drop off).take (k1.length+k2.length)).take k1.length)=(z.drop off).take k1.length:=by
         intro z;rw [List.take_take];congr 1;omega
        have hdr:∀ (z:List PV),(((z.drop off).take (k1.length+k2.length)).drop k1.length)=(z.drop (off+k1.length)).take k2.length:=by
         intro z;rw [List.drop_take,List.drop_drop];congr 1;omega
        rw [ht,ht] at e1;rw [hdr,hdr] at e2;have hxl:=hx.1;have hyl:=hy.1;have seg:∀ {zs:List PV} {vs:List Value},RCs w M X zs vs []→RCs w M X ((zs.drop off).take k1.length) ((vs.drop off).take k1.length) []:=by
         intro zs vs hz;obtain ⟨f1,f2,f3,hF,_,h2,_⟩:=hz.parts off k1.length;have:f2=[]:=by
          have:=congrArg List.length hF;simp at this;exact List.eq_nil_of_length_eq_zero (by omega)
         rw [this] at h2;exact h2
        refine eqf_cons hnm.1 (by rw [hnm.2];exact run_part hk1 hi hsz' (by omega)) (by rw [hnm.2];exact run_part hk1 hi hsz' (by omega)) (eq_plain d f.type k1 hk1 _ _ r1 _ _ (seg hx) (seg hy) e1 q) (ih _ k2 r2 hp2 (by omega) (by omega) e2)
       ·cases hp
      ·cases hp
   refine key fs.toList 0 ks r hf (by omega) (by omega) ?_;rw [List.drop_zero,List.drop_zero,List.take_of_length_le (by omega),List.take_of_length_le (by omega)];exact he
theorem sound_eqs (h:SimW G X F σ (a::acts) w) {t t':TypeId} {x y:Operand} {x' y':Ix} {ng:Bool} {ks:List (Option IntKind)} {fs:Array Field} (ho:o.op=.binOp (if ng then .neq else .eql) t x y t') (hx:ixOk x x'=true) (hy:ixOk y y'=true)
  (hu:P.underlying t=some (.struct fs)) (hp:plainK P 9 t=some ks) (hg:P.eqGuardType P.depth t=false)
  (he:effK σ b (.eqs ng ks x' y') K):∃ E,K E∧Outs P G σ acts a o w E:=by
 simp only [effK] at he;split at he
 ·rename_i l m hxx hyy;have hv:=h.ev hx;have hm:=h.ev hy;rw [hxx] at hv;rw [hyy] at hm;obtain ⟨xs,hxs,hrx⟩:=hv;obtain ⟨ys,hys,hry⟩:=hm;obtain ⟨r,he1,hK⟩:=eqCells_iff ks l m _ he;have:=eq_plain (P:=P) 9 t ks hp l m r xs ys hrx hry he1 9991;have hval:∀ zs,valOf P t zs=.agg zs.toArray:=by intro zs;simp [valOf,hu]
  rw [hval,hval] at this;refine ⟨_,hK,.quiet h (v:=.bool (if ng then !r else r)) ?_ .b⟩;cases ng
  ·simp [execOp,ho,hxs,hys,run_eqGuard_agg w _ t _ _ _ _ hg,run_eql_struct,this]
  ·simp [execOp,ho,hxs,hys,run_eqGuard_agg w _ t _ _ _ _ hg,run_neq_struct,this]
 ·exact he.elim
end
def cConst:Value→Option PV
 | .int k n=>some (.i k n)
 | .bool x=>some (.b x)
 | .string x=>some (.s x)
 | .pointer none=>some .np
 | .slice none 0 0=>some (.vs true 0 [])
 | _=>none
def cCells:List Value→Option (List PV)
 | []=>some []
 | v::l=>match cConst v,cCells l with
  | some p,some m=>some (p::m)
  | _,_=>none
def cIx:Operand→Option Ix
 | .tmp n=>some (.t n)
 | .const (.agg xs)=>(cCells xs.toList).map fun l=>.k (.agg l)
 | .const v=>(cConst v).map fun p=>.k (.one p)
 | .func f=>some (.k (.one (.fn f [])))
 | _=>none
def lay (P:Program):Nat→TypeId→List Nat
 | 0,_=>[]
 | d+1,t=>match P.underlying t with
  | some (.slice e)=>match P.info? e with
   | some i=>[i.size]
   | none=>[0]
  | some (.struct fs)=>fs.toList.flatMap fun f=>lay P d f.type
  | _=>[0]
def retype1:PV→Nat→PV
 | .vs true _ [],k=>.vs true k []
 | p,_=>p
def retype:List PV→List Nat→List PV
 | p::l,k::ks=>retype1 p k::retype l ks
 | l,_=>l
def ixTyped (P:Program) (t:TypeId):Ix→Ix
 | .k (.one p)=>.k (.one (retype1 p ((lay P 6 t).headD 0)))
 | .k (.agg l)=>.k (.agg (retype l (lay P 6 t)))
 | y=>y
def cIxT (P:Program) (t:TypeId) (x:Operand):Option Ix:=(cIx x).map (ixTyped P t)
def cIxs:List Operand→Option (List Ix)
 | []=>some []
 | x::l=>match cIx x,cIxs l with
  | some y,some m=>some (y::m)
  | _,_=>none
def cIxsT (P:Program):List TypeId→List Operand→Option (List Ix)
 | _,[]=>some []
 | ts,x::l=>match cIxT P (ts.headD 0) x,cIxsT P ts.tail l with
  | some y,some m=>some (y::m)
  | _,_=>none
def cParts (P:Program) (place:Nat→Option (Nat×Nat)) (ty:Nat→TypeId):List (Nat×Operand)→Option (List (Nat×Nat×Ix))
 | []=>some []
 | (i,x)::l=>match place i,cIxT P (ty i) x,cParts P place ty l with
  | some (off,n),some y,some m=>some ((off,n,y)::m)
  | _,_,_=>none
def cElems (P:Program) (t:TypeId):List (Nat×Operand)→Option (List (Nat×Ix))
 | []=>some []
 | (i,x)::l=>match cIxT P t x,cElems P t l with
  | some y,some m=>some ((i,y)::m)
  | _,_=>none
def cOpt:Option Operand→Option (Option Ix)
 | none=>some none
 | some x=>(cIx x).map some
theorem cConst_ok {v:Value} {p:PV} (h:cConst v=some p):constOk v p=true:=by
 unfold cConst at h;split at h<;>simp at h<;>subst h<;>simp [constOk]
theorem cCells_ok:∀ {l:List Value} {m:List PV},cCells l=some m→cellsOk l m=true
 | [],m,h=>by simp [cCells] at h;subst h;rfl
 | v::l,m,h=>by
  simp only [cCells] at h;split at h
  ·rename_i p m' h1 h2;simp at h;subst h;simp [cellsOk,cConst_ok h1,cCells_ok h2]
  ·cases h
theorem cIx_ok {x:Operand} {y:Ix} (h:cIx x=some y):ixOk x y=true:=by
 unfold cIx at h;split at h
 ·simp at h;subst h;simp [ixOk]
 ·simp at h;obtain ⟨l,hl,rfl⟩:=h;simpa [ixOk] using cCells_ok hl
 ·simp at h;obtain ⟨p,hp,rfl⟩:=h;simpa [ixOk] using cConst_ok hp
 ·simp at h;subst h;simp [ixOk]
 ·cases h
theorem retype1_ok {v:Value} {p:PV} {k:Nat} (h:constOk v p=true):constOk v (retype1 p k)=true:=by
 unfold retype1;split
 ·unfold constOk at h ⊢;split at h<;>simp_all
 ·exact h
theorem retype_ok:∀ {l:List Value} {m:List PV} {ks:List Nat},cellsOk l m=true→cellsOk l (retype m ks)=true
 | [],[],ks,_=>by cases ks<;>simp [retype,cellsOk]
 | v::l,p::m,[],h=>by simpa [retype] using h
 | v::l,p::m,k::ks,h=>by
  simp only [cellsOk,bae] at h;simp only [retype,cellsOk,bae];exact ⟨retype1_ok h.1,retype_ok h.2⟩
 | [],_::_,_,h=>by simp [cellsOk] at h
 | _::_,[],_,h=>by simp [cellsOk] at h
theorem retype_len:∀ {m:List PV} {ks:List Nat},(retype m ks).length=m.length
 | [],ks=>by cases ks<;>simp [retype]
 | p::m,[]=>by simp [retype]
 | p::m,k::ks=>by simp [retype,retype_len]
theorem ixTyped_ok {P:Program} {t:TypeId} {x:Operand} {y:Ix} (h:ixOk x y=true):ixOk x (ixTyped P t y)=true:=by
 cases y with
 | t n=>exact h
 | k z =>
  cases z with
  | one p =>
   cases x with
   | tmp n=>simp [ixOk] at h
   | const v=>simp only [ixTyped];simp only [ixOk] at h ⊢;cases v<;>exact retype1_ok h
   | global g=>simp [ixOk] at h
   | func f=>cases p<;>simp [ixOk] at h<;>simpa [ixTyped,retype1,ixOk] using h
  | agg l =>
   cases x with
   | const v=>cases v<;>simp [ixOk] at h<;>simpa [ixTyped,ixOk] using retype_ok h
   | _=>simp [ixOk] at h
theorem cIxT_ok {P:Program} {t:TypeId} {x:Operand} {y:Ix} (h:cIxT P t x=some y):ixOk x y=true:=by
 unfold cIxT at h;cases hx:cIx x with
 | none=>rw [hx] at h;cases h
 | some z=>rw [hx] at h;simp at h;subst h;exact ixTyped_ok (cIx_ok hx)
theorem cIxsT_ok {P:Program}:∀ {ts:List TypeId} {l:List Operand} {m:List Ix},cIxsT P ts l=some m→All2 (fun x y=>ixOk x y=true) l m
 | ts,[],m,h=>by simp [cIxsT] at h;subst h;exact .nil
 | ts,x::l,m,h=>by
  simp only [cIxsT] at h;split at h
  ·rename_i y m' h1 h2;simp at h;subst h;exact .cons (cIxT_ok h1) (cIxsT_ok h2)
  ·cases h
theorem cIxs_ok:∀ {l:List Operand} {m:List Ix},cIxs l=some m→l.length=m.length∧∀ (j:Nat) (x:Operand) (y:Ix),l[j]? = some x→m[j]? = some y→ixOk x y=true
 | [],m,h=>by simp [cIxs] at h;subst h;simp
 | x::l,m,h=>by
  simp only [cIxs] at h;split at h
  ·rename_i y m' h1 h2;simp at h;subst h;obtain ⟨k1,k2⟩:=cIxs_ok h2;refine ⟨by simp [k1],fun j u v hu hv => ?_⟩;cases j with
   | zero=>simp at hu hv;subst hu hv;exact cIx_ok h1
   | succ j=>exact k2 j u v (by simpa using hu) (by simpa using hv)
  ·cases h
theorem cParts_ok {P:Program} {place:Nat→Option (Nat×Nat)} {ty:Nat→TypeId}:∀ {l:List (Nat×Operand)} {m:List (Nat×Nat×Ix)},cParts P place ty l=some m→partsOk place l m=true
 | [],m,h=>by simp [cParts] at h;subst h;rfl
 | (i,x)::l,m,h=>by
  simp only [cParts] at h;split at h
  ·rename_i off n y m' h0 h1 h2;simp at h;subst h;simp [partsOk,cIxT_ok h1,cParts_ok h2,h0]
  ·cases h
theorem cElems_ok {P:Program} {t:TypeId}:∀ {l:List (Nat×Operand)} {m:List (Nat×Ix)},cElems P t l=some m→elemsOk l m=true
 | [],m,h=>by simp [cElems] at h;subst h;rfl
 | (i,x)::l,m,h=>by
  simp only [cElems] at h;split at h
  ·rename_i y m' h1 h2;simp at h;subst h;simp [elemsOk,cIxT_ok h1,cElems_ok h2]
  ·cases h
theorem cOpt_ok {x:Option Operand} {y:Option Ix} (h:cOpt x=some y):optIx x y=true:=by
 cases x<;>simp [cOpt] at h
 ·subst h;rfl
 ·obtain ⟨z,hz,rfl⟩:=h;simpa [optIx] using cIx_ok hz
def opEq:Operand→Operand→Bool
 | .tmp n,.tmp m=>n==m
 | .const (.int k n),.const (.int k' m)=>decide (k=k')&&n==m
 | _,_=>false
theorem opEq_ok {x y:Operand} (h:opEq x y=true):x=y:=by
 unfold opEq at h;split at h
 ·simp at h;subst h;rfl
 ·simp at h;obtain ⟨rfl,rfl⟩:=h;rfl
 ·cases h
def cElem (P:Program) (t:TypeId):Option (Nat×Nat×List PV) :=
 match P.underlying t with
 | some (.slice e)=>match P.info? e with
  | some i=>match i.zero with
   | some z=>match cCells z.cells.toList with
    | some zs=>if zs.length=i.size∧0<i.size∧0<i.bytes then some (i.size,i.bytes,retype zs (lay P 6 e)) else none
    | none=>none
   | none=>none
  | none=>none
 | _=>none
theorem cElem_ok {P:Program} {t:TypeId} {k bytes:Nat} {zs:List PV} (h:cElem P t=some (k,bytes,zs)) :
  ∃ e i z,P.underlying t=some (.slice e)∧P.info? e=some i∧i.size=k∧i.bytes=bytes∧i.zero=some z∧cellsOk z.cells.toList zs=true∧zs.length=k∧z.cells.size=k∧0<k∧0<bytes:=by
 unfold cElem at h;split at h
 ·rename_i e he;split at h
  ·rename_i i hi;split at h
   ·rename_i z hz;split at h
    ·rename_i zs' hzs;split at h
     ·rename_i hc;simp at h;obtain ⟨rfl,rfl,rfl⟩:=h;have hok:=cCells_ok hzs;have hl:=(cellsOk_rel (w:=default) (M:=fun _=>False) (X:=⟨fun _=>.fresh,fun _=>none,fun _=>0,fun _=>undef,fun _=>False⟩) hok).1;exact ⟨e,i,z,he,hi,rfl,rfl,hz,retype_ok hok,by rw [retype_len];exact hc.1,by rw [← hc.1,hl];simp,hc.2.1,hc.2.2⟩
     ·cases h
    ·cases h
   ·cases h
  ·cases h
 ·cases h
def compLen (P:Program):List Operand→List TypeId→Option AK
 | [x],[t]=>match P.underlying t,cIx x with
  | some (.slice _),some y=>some (.len y)
  | _,_=>none
 | _,_=>none
def compApp (P:Program):List Operand→List TypeId→Option AK
 | [x,y],[t,t']=>match cElem P t,cIx x,cIx y with
  | some (k,bytes,_),some x,some y=>if t=t' then some (.app k bytes x y) else none
  | _,_,_=>none
 | _,_=>none
def compCopy (P:Program):List Operand→List TypeId→Option AK
 | [x,y],[t,_]=>match cElem P t,cIx x,cIx y with
  | some (k,_,_),some x,some y=>if k=1 then some (.copy x y) else none
  | _,_,_=>none
 | _,_=>none
def compTwo (f:Ix→Ix→AK):List Operand→Option AK
 | [x,y]=>match cIx x,cIx y with
  | some x,some y=>some (f x y)
  | _,_=>none
 | _=>none
def compCall (P:Program) (c:Call):Option AK :=
 match c.callee with
 | .builtin .len=>compLen P c.args.toList c.argTypes.toList
 | .builtin .append=>compApp P c.args.toList c.argTypes.toList
 | .builtin .copy=>compCopy P c.args.toList c.argTypes.toList
 | .builtin .min=>compTwo .mn c.args.toList
 | .builtin .max=>compTwo .mx c.args.toList
 | .value (.func f)=>(cIxsT P c.argTypes.toList c.args.toList).map (.call f)
 | .value (.tmp f)=>(cIxsT P c.argTypes.toList c.args.toList).map (.clo (.t f))
 | _=>none
def comp (P:Program) (o:Oper):Option AK :=
 match o.op with
 | .move x=>(cIxT P o.type x).map .mv
 | .assign x=>(cIxT P o.type x).map .mv
 | .pick c x y=>match cIx c,cIxT P o.type x,cIxT P o.type y with
  | some c,some x,some y=>some (.pick c x y)
  | _,_,_=>none
 | .alloc t=>match P.info? t with
  | some i=>match i.zero with
   | some z=>(cCells z.cells.toList).map fun zs=>.alloc (retype zs (lay P 6 t))
   | none=>none
  | none=>none
 | .box t x=>(cIxT P t x).map .box
 | .build t parts=>match P.info? t,P.underlying t with
  | some i,some (.struct fs)=>match i.zero,fs.toList.mapM (fun f=>(P.info? f.type).map fun i=>(f.offset,i.size)) with
   | some z,some places=>match cCells z.cells.toList,cParts P (places.toArray[·]?) (fun i=>match fs[i]? with|some f=>f.type|none=>0) parts.toList with
    | some zs,some ps=>some (.build (retype zs (lay P 6 t)) ps)
    | _,_=>none
   | _,_=>none
  | _,_=>none
 | .buildSlice t n parts=>match cElem P t,cElems P (match P.underlying t with|some (.slice e)=>e|_=>0) parts.toList with
  | some (k,_,zs),some ps=>if n*k≤16777216∧n≤maxLen then some (.bsl k n zs ps) else none
  | _,_=>none
 | .load t x=>match P.underlying t,P.info? t,cIx x with
  | some d,some i,some y=>if descAgg d then some (.ld i.size y) else some (.ld1 y)
  | _,_,_=>none
 | .store t x v=>match P.info? t,cIx x,cIxT P t v with
  | some i,some y,some z=>if 0<i.size then some (.st i.size y z) else none
  | _,_,_=>none
 | .nilCheck x=>(cIx x).map .nchk
 | .binOp op t x y _=>match P.underlying t,cIx x,cIx y with
  | some (.struct _),some x,some y=>match plainK P 9 t with
   | some ks=>if P.eqGuardType P.depth t then none else match op with
    | .eql=>some (.eqs false ks x y)
    | .neq=>some (.eqs true ks x y)
    | _=>none
   | none=>none
  | some .bool,some x,some y=>some (.bin true op x y)
  | some (.int _),some x,some y=>some (.bin false op x y)
  | _,_,_=>none
 | .unOp .not _ x=>(cIx x).map .not
 | .unOp .neg _ x=>(cIx x).map .neg
 | .convert s t x=>match P.underlying s,P.underlying t,cIx x with
  | some _,some (.int k),some y=>some (.conv k y)
  | _,_,_=>none
 | .makeFunc (.func f) fs l=>match fs.toList with
  | []=>(cIxs l.toList).map (.mkf f)
  | _=>none
 | .makeSlice t x y=>match cElem P t,cIx x with
  | some (k,bytes,zs),some z=>if opEq x y then some (.mks k bytes zs z) else none
  | _,_=>none
 | .slice t x lo hi none=>match cElem P t,cIx x,cOpt lo,cOpt hi with
  | some (k,_,_),some x,some lo,some hi=>some (.slc k x lo hi)
  | _,_,_,_=>none
 | .fieldAddr s x f=>match P.underlying s,cIx x with
  | some (.struct fs),some y=>match fs[f]? with
   | some fd=>match P.info? fd.type with
    | some n=>if n.size=0 then none else some (.fa fd.offset y)
    | none=>none
   | none=>none
  | _,_=>none
 | .indexAddr t x y=>match cElem P t,cIx x,cIx y with
  | some (k,_,_),some x,some y=>some (.ia k x y)
  | _,_,_=>none
 | .extract x i=>(cIx x).map (.ext i)
 | .call c=>compCall P c
 | _=>none
def AK.own:AK→Bool
 | .call .. | .clo .. => false
 | _=>true
section
variable {P:Program} {G:Fr} {X:Ctx} {F:Nat→List Nat} {σ:St} {a:Act} {acts:List Act} {w:World} {M:Nat→Prop} {o:Oper} {b:Nat} {K:Eff→Prop}
theorem map_inv {α β:Type} {f:α→β} {x:Option α} {y:β} (h:x.map f=some y):∃ z,x=some z∧y=f z:=by
 cases x<;>simp at h;exact ⟨_,rfl,h.symm⟩
theorem sound_comp (h:SimW G X F σ (a::acts) w) {k:AK} (hc:comp P o=some k) (hk:k.own=true) (he:effK σ b k K):∃ E,K E∧Outs P G σ acts a o w E:=by
 unfold comp at hc;split at hc
 ·rename_i x ho;obtain ⟨y,hy,rfl⟩:=map_inv hc;exact ⟨_,he,sound_mv h (.inl ho) (cIxT_ok hy)⟩
 ·rename_i x ho;obtain ⟨y,hy,rfl⟩:=map_inv hc;exact ⟨_,he,sound_mv h (.inr ho) (cIxT_ok hy)⟩
 ·rename_i c x y ho;split at hc
  ·rename_i h1 h2 h3;simp at hc;subst hc;exact sound_pick h ho (cIx_ok h1) (cIxT_ok h2) (cIxT_ok h3) he
  ·cases hc
 ·rename_i t ho;split at hc
  ·rename_i i hi;split at hc
   ·rename_i z hz;obtain ⟨zs,hzs,rfl⟩:=map_inv hc;exact sound_alloc h ho hi hz (retype_ok (cCells_ok hzs)) he
   ·cases hc
  ·cases hc
 ·rename_i t x ho;obtain ⟨y,hy,rfl⟩:=map_inv hc;exact sound_box h ho (cIxT_ok hy) he
 ·rename_i t parts ho;split at hc
  ·rename_i i fs hi hu;split at hc
   ·rename_i z places hz hpl;split at hc
    ·rename_i zs ps hzs hps;simp at hc;subst hc;exact sound_build h ho hi hu hz hpl (retype_ok (cCells_ok hzs)) (cParts_ok hps) he
    ·cases hc
   ·cases hc
  ·cases hc
 ·rename_i t n parts ho;split at hc
  ·rename_i k' bytes zs ps h1 h2;split at hc
   ·rename_i hn;simp at hc;subst hc;obtain ⟨e,i,z,ht,hi,hk',hby,hz,hzs,hzk,hzc,hk0,hb0⟩:=cElem_ok h1;exact sound_bsl h ho ht hi hk' hz hzs hzk hn.1 (cElems_ok h2) hn.2 he
   ·cases hc
  ·cases hc
 ·rename_i t x ho;split at hc
  ·rename_i d i y hd hi hy;split at hc
   ·rename_i hda;simp at hc;subst hc;exact sound_ld h ho hd hda hi rfl (cIx_ok hy) he
   ·rename_i hda;simp at hc;subst hc;exact sound_ld1 h ho hd (by simpa using hda) (cIx_ok hy) he
  ·cases hc
 ·rename_i t x v ho;split at hc
  ·rename_i i y z hi hy hz;split at hc
   ·rename_i h0;simp at hc;subst hc;exact sound_st h ho hi rfl h0 (cIx_ok hy) (cIxT_ok hz) he
   ·cases hc
  ·cases hc
 ·rename_i x ho;obtain ⟨y,hy,rfl⟩:=map_inv hc;exact sound_nchk h ho (cIx_ok hy) he
 ·rename_i op t x y t' ho;split at hc
  ·rename_i fs x' y' hu hx hy;split at hc
   ·rename_i ks hks;split at hc
    ·cases hc
    ·rename_i hg;split at hc
     ·simp at hc;subst hc;exact sound_eqs h (ng:=false) ho (cIx_ok hx) (cIx_ok hy) hu hks (by simpa using hg) he
     ·simp at hc;subst hc;exact sound_eqs h (ng:=true) ho (cIx_ok hx) (cIx_ok hy) hu hks (by simpa using hg) he
     ·cases hc
   ·cases hc
  ·rename_i x' y' hu hx hy;simp at hc;subst hc;exact sound_bin h ho (cIx_ok hx) (cIx_ok hy) (fun _=>hu) he
  ·rename_i k x' y' hu hx hy;simp at hc;subst hc;exact sound_bin h ho (cIx_ok hx) (cIx_ok hy) (fun e=>by cases e) he
  ·cases hc
 ·rename_i t x ho;obtain ⟨y,hy,rfl⟩:=map_inv hc;exact sound_not h ho (cIx_ok hy) he
 ·rename_i t x ho;obtain ⟨y,hy,rfl⟩:=map_inv hc;exact sound_neg h ho (cIx_ok hy) he
 ·rename_i s t x ho;split at hc
  ·rename_i u k' y hs ht hy;simp at hc;subst hc;exact sound_conv h ho (cIx_ok hy) hs ht he
  ·cases hc
 ·rename_i f fs l ho;split at hc
  ·rename_i hfs;have hfs':fs=#[]:=by cases fs;simp at hfs;subst hfs;rfl
   subst hfs';obtain ⟨m,hm,rfl⟩:=map_inv hc;obtain ⟨h1,h2⟩:=cIxs_ok hm;exact sound_mkf h ho (by simpa using h1) h2 he
  ·cases hc
 ·rename_i t x y ho;split at hc
  ·rename_i k' bytes zs z h1 h2;split at hc
   ·rename_i hxy;simp at hc;subst hc;have:=opEq_ok hxy;subst this;obtain ⟨e,i,z',ht,hi,hk',hby,hz,hzs,hzk,hzc,hk0,hb0⟩:=cElem_ok h1;exact sound_mks h ho (cIx_ok h2) ht hi hk' hby hz hzs hzk he
   ·cases hc
  ·cases hc
 ·rename_i t x lo hi ho;split at hc
  ·rename_i k' bytes zs x' lo' hi' h1 h2 h3 h4;simp at hc;subst hc;obtain ⟨e,i,z',ht,hi,hk',hby,hz,hzs,hzk,hzc,hk0,hb0⟩:=cElem_ok h1;exact sound_slc h ho (cIx_ok h2) (cOpt_ok h3) (cOpt_ok h4) ht hi hk' he
  ·cases hc
 ·rename_i s x f ho;split at hc
  ·rename_i fs y hs hy;split at hc
   ·rename_i fd hf;split at hc
    ·rename_i n hn;split at hc
     ·cases hc
     ·rename_i h0;simp at hc;subst hc;exact sound_fa h ho (cIx_ok hy) hs hf rfl hn h0 he
    ·cases hc
   ·cases hc
  ·cases hc
 ·rename_i t x y ho;split at hc
  ·rename_i k' bytes zs x' y' h1 h2 h3;simp at hc;subst hc;obtain ⟨e,i,z',ht,hi,hk',hby,hz,hzs,hzk,hzc,hk0,hb0⟩:=cElem_ok h1;exact sound_ia h ho (cIx_ok h2) (cIx_ok h3) ht hi hk' hk0 he
  ·cases hc
 ·rename_i x i ho;obtain ⟨y,hy,rfl⟩:=map_inv hc;exact sound_ext h ho (cIx_ok hy) he
 ·rename_i c ho;obtain ⟨callee,args,argTypes⟩:=c;unfold compCall at hc;split at hc
  ·rename_i e;simp only at e hc;subst e;unfold compLen at hc;split at hc
   ·rename_i x t ex et;have:args=#[x]:=by cases args;simp at ex;subst ex;rfl
    subst this;have:argTypes=#[t]:=by cases argTypes;simp at et;subst et;rfl
    subst this;split at hc
    ·rename_i e y ht hy;simp at hc;subst hc;exact sound_len h ho ht (cIx_ok hy) he
    ·cases hc
   ·cases hc
  ·rename_i e;simp only at e hc;subst e;unfold compApp at hc;split at hc
   ·rename_i x y t t' ex et;have:args=#[x,y]:=by cases args;simp at ex;subst ex;rfl
    subst this;have:argTypes=#[t,t']:=by cases argTypes;simp at et;subst et;rfl
    subst this;split at hc
    ·rename_i k' bytes zs x' y' h1 h2 h3;split at hc
     ·rename_i htt;simp at hc;subst hc;subst htt;obtain ⟨e,i,z',ht,hi,hk',hby,hz,hzs,hzk,hzc,hk0,hb0⟩:=cElem_ok h1;exact sound_app h ho (cIx_ok h2) (cIx_ok h3) ht hi hz hk' hzc hby hk0 hb0 he
     ·cases hc
    ·cases hc
   ·cases hc
  ·rename_i e;simp only at e hc;subst e;unfold compCopy at hc;split at hc
   ·rename_i x y t t' ex et;have:args=#[x,y]:=by cases args;simp at ex;subst ex;rfl
    subst this;have:argTypes=#[t,t']:=by cases argTypes;simp at et;subst et;rfl
    subst this;split at hc
    ·rename_i k' bytes zs x' y' h1 h2 h3;split at hc
     ·rename_i hk1;simp at hc;subst hc;obtain ⟨e,i,z',ht,hi,hk',hby,hz,hzs,hzk,hzc,hk0,hb0⟩:=cElem_ok h1;exact sound_copy h ho (cIx_ok h2) (cIx_ok h3) ht hi (hk'.trans hk1) he
     ·cases hc
    ·cases hc
   ·cases hc
  ·rename_i e;simp only at e hc;subst e;unfold compTwo at hc;split at hc
   ·rename_i x y ex;have:args=#[x,y]:=by cases args;simp at ex;subst ex;rfl
    subst this;split at hc
    ·rename_i x' y' h1 h2;simp at hc;subst hc;exact sound_mn h ho (cIx_ok h1) (cIx_ok h2) he
    ·cases hc
   ·cases hc
  ·rename_i e;simp only at e hc;subst e;unfold compTwo at hc;split at hc
   ·rename_i x y ex;have:args=#[x,y]:=by cases args;simp at ex;subst ex;rfl
    subst this;split at hc
    ·rename_i x' y' h1 h2;simp at hc;subst hc;exact sound_mx h ho (cIx_ok h1) (cIx_ok h2) he
    ·cases hc
   ·cases hc
  ·obtain ⟨m,hm,rfl⟩:=map_inv hc;cases hk
  ·obtain ⟨m,hm,rfl⟩:=map_inv hc;cases hk
  ·cases hc
 ·cases hc
end
inductive NoRef:PV→Prop
 | i {k:IntKind} {n:Int}:NoRef (.i k n)
 | b {x:Bool}:NoRef (.b x)
 | s {x:ByteArray}:NoRef (.s x)
 | vs {o:Bool} {k:Nat} {l:List (List PV)} (h:∀ c∈l,∀ p∈c,NoRef p):NoRef (.vs o k l)
 | rp {l:List PV} {j:Nat} (h:∀ p∈l,NoRef p):NoRef (.rp l j)
 | fn {f:FuncId} {l:List PV} (h:∀ p∈l,NoRef p):NoRef (.fn f l)
 | np:NoRef .np
 | tok {n:Nat}:NoRef (.tok n)
 | un:NoRef .un
theorem noRef_vs {o:Bool} {k:Nat} {l:List (List PV)}:NoRef (.vs o k l)↔∀ c∈l,∀ p∈c,NoRef p:=⟨fun h=>by cases h with|vs h=>exact h,.vs⟩
theorem noRef_rp {l:List PV} {j:Nat}:NoRef (.rp l j)↔∀ p∈l,NoRef p:=⟨fun h=>by cases h with|rp h=>exact h,.rp⟩
theorem noRef_fn {f:FuncId} {l:List PV}:NoRef (.fn f l)↔∀ p∈l,NoRef p:=⟨fun h=>by cases h with|fn h=>exact h,.fn⟩
theorem NoRef.sh {p:PV} (h:NoRef p):NoRef p.sh:=by
 cases h with
 | vs h=>exact .vs h
 | i=>exact .i
 | b=>exact .b
 | s=>exact .s
 | rp h=>exact .rp h
 | fn h=>exact .fn h
 | np=>exact .np
 | tok=>exact .tok
 | un=>exact .un
inductive NoRo:PV→Prop
 | i {k:IntKind} {n:Int}:NoRo (.i k n)
 | b {x:Bool}:NoRo (.b x)
 | s {x:ByteArray}:NoRo (.s x)
 | vs {k:Nat} {l:List (List PV)} (h:∀ c∈l,∀ p∈c,NoRo p):NoRo (.vs true k l)
 | fn {f:FuncId}:NoRo (.fn f [])
 | np:NoRo .np
 | tok {n:Nat}:NoRo (.tok n)
theorem noRo_vs {k:Nat} {l:List (List PV)}:NoRo (.vs true k l)↔∀ c∈l,∀ p∈c,NoRo p:=⟨fun h=>by cases h with|vs h=>exact h,.vs⟩
section
variable {w w':World} {M M':Nat→Prop} {X X':Ctx}
theorem mem_of_flat {l:List (List PV)} {j:Nat} {p:PV} {Q:PV→Prop} (h:∀ c∈l,∀ p∈c,Q p) (hp:l.flatten[j]? = some p):Q p:=by
 obtain ⟨c,hc,hpc⟩:=List.mem_flatten.1 (List.mem_of_getElem? hp);exact h c hc p hpc
theorem RC.move {p:PV} {v:Value} {fp:List Nat} (h:RC w M X p v fp) (hn:NoRef p) (hown:∀ g∈fp,w'.heap[g]? = w.heap[g]?) (hro:∀ g,g<w.heap.size→¬ M g→w'.heap[g]? = w.heap[g]?)
  (hM:∀ g,g<w.heap.size→¬ M g→¬ M' g) (hτ:X'.τ=X.τ):RC w' M' X' p v fp:=by
 induction h with
 | i=>exact .i
 | b=>exact .b
 | s=>exact .s
 | own e hr hk hl hf hc ih =>
  rw [noRef_vs] at hn;refine .own e (ownsRow_kept hr fun g hg=>hown g (by simp [hg])) hk hl hf fun j p u f hp hu hff=>ih j p u f hp hu hff (mem_of_flat hn hp) fun g hg=>hown g ?_
  simp only [lma,List.mem_flatten];exact .inr ⟨f,List.mem_of_getElem? hff,hg⟩
 | ro hnn hk hl hx hc ih =>
  rw [noRef_vs] at hn;refine .ro hnn hk hl (fun j u hu => ?_) fun j p u hp hu=>ih j p u hp hu (mem_of_flat hn hp).sh (by simp)
  obtain ⟨ad,rfl,hm,hcell⟩:=hx j u hu;have hb:(ad.add j).block=ad.block:=by unfold Addr.add;split<;>rfl
  have hlt:=World.block_lt_of_cell? w _ hcell;rw [hb] at hlt;exact ⟨ad,rfl,hM _ hlt hm,(World.cell?_of_block (by rw [hb];exact hro _ hlt hm)).trans hcell⟩
 | ref=>cases hn
 | ptr=>cases hn
 | @rp l j ad xs hl hx hc ih =>
  rw [noRef_rp] at hn;refine .rp hl (fun i u hu => ?_) fun i p u hp hu=>ih i p u hp hu (hn p (List.mem_of_getElem? hp)).sh (by simp)
  obtain ⟨hm,hcell⟩:=hx i u hu;have hb:(ad.add i).block=ad.block:=by unfold Addr.add;split<;>rfl
  have hlt:=World.block_lt_of_cell? w _ hcell;rw [hb] at hlt;exact ⟨hM _ hlt hm,(World.cell?_of_block (by rw [hb];exact hro _ hlt hm)).trans hcell⟩
 | fn hl hc ih=>rw [noRef_fn] at hn;exact .fn hl fun i p u hp hu=>ih i p u hp hu (hn p (List.mem_of_getElem? hp)) (by simp)
 | np=>exact .np
 | tok h=>rw [← hτ] at h ⊢;exact .tok h
 | un h=>exact .un h
theorem RC.moveOwn {p:PV} {v:Value} {fp:List Nat} (h:RC w M X p v fp) (hn:NoRo p) (hown:∀ g∈fp,w'.heap[g]? = w.heap[g]?) (hτ:X'.τ=X.τ):RC w' M' X' p v fp:=by
 induction h with
 | i=>exact .i
 | b=>exact .b
 | s=>exact .s
 | own e hr hk hl hf hc ih =>
  rw [noRo_vs] at hn;refine .own e (ownsRow_kept hr fun g hg=>hown g (by simp [hg])) hk hl hf fun j p u f hp hu hff=>ih j p u f hp hu hff (mem_of_flat hn hp) fun g hg=>hown g ?_
  simp only [lma,List.mem_flatten];exact .inr ⟨f,List.mem_of_getElem? hff,hg⟩
 | ro=>cases hn
 | ref=>cases hn
 | ptr=>cases hn
 | rp=>cases hn
 | fn hl hc ih =>
  cases hn;exact .fn hl (by simp)
 | np=>exact .np
 | tok h=>rw [← hτ] at h ⊢;exact .tok h
 | un h=>cases hn
theorem RC.toRo {p:PV} {v:Value} {fp:List Nat} (h:RC w M X p v fp) (hn:NoRef p) (hfp:∀ g∈fp,¬ M' g) (hM:∀ g,g<w.heap.size→¬ M g→¬ M' g) (hτ:X'.τ=X.τ):RC w M' X' p.sh v []:=by
 induction h with
 | i=>exact .i
 | b=>exact .b
 | s=>exact .s
 | @own k l v xs fps e hr hk hl hf hc ih =>
  rw [noRef_vs] at hn;have hcc:∀ (j:Nat) (p:PV) (u:Value),l.flatten[j]? = some p→xs[j]? = some u→RC w M' X' p.sh u []:=by
   intro j p u hp hu;have hj:j<xs.length:=(List.getElem?_eq_some_iff.1 hu).1;refine ih j p u _ hp hu (List.getElem?_eq_getElem (show j<fps.length by omega)) (mem_of_flat hn hp) fun g hg=>hfp g ?_
   simp only [lma,List.mem_flatten];exact .inr ⟨_,List.getElem_mem (show j<fps.length by omega),hg⟩
  rcases hr.2 with ⟨rfl,h0⟩|⟨g,cap,cur,rfl,hg0,hg,hnc,hm,hs,ht⟩
  ·have:l=[]:=List.eq_nil_of_length_eq_zero h0;subst this;simp at hl;have:xs=[]:=List.eq_nil_of_length_eq_zero hl.symm;subst this;exact RC.ro (l:=[]) (xs:=[]) (by simp) (by simp) rfl (by simp) (by simp)
  ·refine .ro hnc hk hl (fun j u hu=>⟨_,rfl,hfp g (by simp [Value.ownBlock]),?_⟩) hcc;have e1:(⟨g,0,none⟩:Addr).add j=⟨g,j,none⟩:=by have:=add_baseOf (g,0) j;simpa [baseOf] using this
   rw [e1,cell_of_row w g j cur e (0,0) hg];rw [← ht,List.getElem?_take] at hu;split at hu
   ·simpa using hu
   ·cases hu
 | ro hnn hk hl hx hc ih =>
  rw [noRef_vs] at hn;refine .ro hnn hk hl (fun j u hu => ?_) fun j p u hp hu=>by
   have:=ih j p u hp hu (mem_of_flat hn hp).sh (by simp);cases p<;>exact this
  obtain ⟨ad,rfl,hm,hcell⟩:=hx j u hu;have hb:(ad.add j).block=ad.block:=by unfold Addr.add;split<;>rfl
  have hlt:=World.block_lt_of_cell? w _ hcell;rw [hb] at hlt;exact ⟨ad,rfl,hM _ hlt hm,hcell⟩
 | ref=>cases hn
 | ptr=>cases hn
 | @rp l j ad xs hl hx hc ih =>
  rw [noRef_rp] at hn;refine .rp hl (fun i u hu => ?_) fun i p u hp hu=>by
   have:=ih i p u hp hu (hn p (List.mem_of_getElem? hp)).sh (by simp);cases p<;>exact this
  obtain ⟨hm,hcell⟩:=hx i u hu;have hb:(ad.add i).block=ad.block:=by unfold Addr.add;split<;>rfl
  have hlt:=World.block_lt_of_cell? w _ hcell;rw [hb] at hlt;exact ⟨hM _ hlt hm,hcell⟩
 | @fn f l xs hl hc ih =>
  rw [noRef_fn] at hn;exact .fn hl fun i p u hp hu=>(hc i p u hp hu).move (hn p (List.mem_of_getElem? hp)) (by simp) (fun _ _ _=>rfl) hM hτ
 | np=>exact .np
 | tok h=>rw [← hτ] at h ⊢;exact .tok h
 | un h=>exact .un h
theorem RCs.map_rc {M':Nat→Prop} {ps:List PV} {xs:List Value} {fp:List Nat} (h:RCs w M X ps xs fp) (hf:∀ (p:PV) (u:Value) (f:List Nat),p∈ps→(∀ g∈f,g∈fp)→RC w M X p u f→RC w' M' X' p u f):RCs w' M' X' ps xs fp:=by
 obtain ⟨hl,fps,hfl,rfl,hc⟩:=h;exact ⟨hl,fps,hfl,rfl,fun j p u f hp hu hff=>hf p u f (List.mem_of_getElem? hp) (fun g hg=>List.mem_flatten.2 ⟨f,List.mem_of_getElem? hff,hg⟩) (hc j p u f hp hu hff)⟩
theorem RCs.toRo {ps:List PV} {xs:List Value} {fp:List Nat} (h:RCs w M X ps xs fp) (hn:∀ p∈ps,NoRef p) (hfp:∀ g∈fp,¬ M' g) (hM:∀ g,g<w.heap.size→¬ M g→¬ M' g) (hτ:X'.τ=X.τ):RCs w M' X' (ps.map PV.sh) xs []:=by
 obtain ⟨hl,fps,hfl,rfl,hc⟩:=h;refine .of_nofp (by simpa using hl) fun j p u hp hu => ?_
 rw [List.getElem?_map] at hp;obtain ⟨q,hq,rfl⟩:=Option.map_eq_some_iff.1 hp;have hj:j<xs.length:=(List.getElem?_eq_some_iff.1 hu).1;exact (hc j q u _ hq hu (List.getElem?_eq_getElem (show j<fps.length by omega))).toRo (hn q (List.mem_of_getElem? hq)) (fun g hg=>hfp g (List.mem_flatten.2 ⟨_,List.getElem_mem _,hg⟩)) hM hτ
end
section
variable {P:Program} {G:Fr} {X:Ctx} {F:Nat→List Nat} {σ:St} {acts:List Act} {w w':World} {M M':Nat→Prop}
def Ctx.withN (X:Ctx) (N:Nat→Prop):Ctx:={ X with N:=N }
theorem Le_withN (X:Ctx) (N:Nat→Prop):X.Le (X.withN N):=⟨fun _ h=>h,fun id B h=>.inr ⟨B,h,.inr ⟨rfl,rfl,rfl,rfl,rfl⟩⟩,rfl⟩
theorem SimW.reN (h:SimW G X F σ acts w) (N:Nat→Prop) (h1:∀ g,G.N g→N g) (h2:∀ g,g<w.heap.size→N g→Mut X F g):SimW G (X.withN N) F σ acts w where
 hH:=h.hH
 hτ:=h.hτ
 hN:=h1
 gok:=h.gok
 envs:=All2.mono' (fun E a k=>⟨k.defers,k.size,fun t=>(k.reg t).frame (fun _ _ _=>rfl) (fun g hg hn hm=>hm.elim (fun k=>hn (h2 g hg k)) fun k=>hn (.inr k)) (Le_withN X N)⟩) h.envs
 blk:=fun id B hB=>(h.blk id B hB).frame (fun _ _=>rfl) (fun _ _ _=>rfl) (fun g hg hn hm=>hm.elim (fun k=>hn (h2 g hg k)) fun k=>hn (.inr k)) (Le_withN X N) rfl rfl
 nd:=h.nd
 dj:=h.dj
 lt:=h.lt
 src:=h.src
 kept:=h.kept
 win:=h.win
theorem SimW.adopt (h:SimW G X F σ acts w) {id:Nat} (hf:X.H id=.fresh) {Xc:Ctx} {k:Nat} {l:List (List PV)} {v:Value} {f:List Nat} (hl:RC w M Xc (.vs true k l) v f) (hn:NoRef (.vs true k l)) (hτ:Xc.τ=X.τ)
  (hfN:∀ g∈f,X.N g) (hM:∀ g,g<w.heap.size→¬ M g→¬ X.N g∧¬ Mut1 X F g) (hnd:f.Nodup) (hdj:∀ g∈f,¬ Mut1 X F g) (hsrc:∀ g∈f,G.own0 g∨G.w0.heap.size≤g) :
  ∃ X' F',SimW G X' F' (σ.setSlot id (.live ⟨0,k,[],l⟩)) acts w∧X.Le X'∧X'.N=X.N∧(∀ M,RC w M X' (.ref id 0 l.length l.length) v [])∧(∀ g,Mut1 X' F' g↔Mut1 X F g∨g∈f)∧(∀ i,i≠id→X'.H i=X.H i):=by
 have hwin:G.wins[id]? = none:=by
  cases hx:G.wins[id]? with
  | none=>rfl
  | some x=>obtain ⟨B,hB,_⟩:=h.win id x hx;rw [hf] at hB;cases hB
 obtain ⟨e,xs,fn,hr,hk,hc,rfl⟩:=hl.own_inv;obtain ⟨A,C,hv,hAo,hnC⟩:=row_place hr
 let B:Blk:=⟨0,k,[],l⟩
 let X':=X.upd id (.live B) A C
 let F':=upd F id fn
 have hOwn:Own X' F' id=v.ownBlock.toList++fn:=by rw [Own_upd_same,hAo]
 have hne:∀ i,i≠id→X'.H i=X.H i:=fun i hi=>by simp [X',Ctx.upd,upd,hi]
 have hid:X'.H id=.live B:=by simp [X',Ctx.upd,upd]
 have hX:X.Le X':=by
  refine ⟨fun i e => ?_,fun i B' e => ?_,rfl⟩
  ·by_cases hi:i=id
   ·subst hi;rw [hid] at e;cases e
   ·rw [hne i hi] at e;exact e
  ·by_cases hi:i=id
   ·subst hi;exact .inl hf
   ·refine .inr ⟨B',by rw [← hne i hi];exact e,.inr ⟨rfl,rfl,rfl,?_,?_⟩⟩<;>simp [X',Ctx.upd,upd,hi]
 have hM1:∀ g,Mut1 X' F' g↔Mut1 X F g∨g∈v.ownBlock.toList++fn:=by
  intro g;constructor
  ·rintro ⟨i,B',hi,hg⟩;by_cases hii:i=id
   ·subst hii;rw [hOwn] at hg;exact .inr hg
   ·rw [hne i hii] at hi;rw [show Own X' F' i=Own X F i from Own_upd_ne hii] at hg;exact .inl ⟨i,B',hi,hg⟩
  ·rintro (⟨i,B',hi,hg⟩|hg)
   ·have hii:i≠id:=by rintro rfl;rw [hf] at hi;cases hi
    exact ⟨i,B',by rw [hne i hii];exact hi,by rw [show Own X' F' i=Own X F i from Own_upd_ne hii];exact hg⟩
   ·exact ⟨id,B,hid,by rw [hOwn];exact hg⟩
 have hMM:∀ g,¬ Mut X F g→¬ Mut X' F' g:=by
  intro g hn' hm;rcases hm with hm|hm
  ·exact hn' (.inl hm)
  ·rcases (hM1 g).1 hm with k1|k1
   ·exact hn' (.inr k1)
   ·exact hn' (.inl (hfN g k1))
 have hMc:∀ g,g<w.heap.size→¬ M g→¬ Mut X' F' g:=by
  intro g hg hnm hm;have:=hM g hg hnm;rcases hm with hm|hm
  ·exact this.1 hm
  ·rcases (hM1 g).1 hm with k1|k1
   ·exact this.2 k1
   ·exact this.1 (hfN g k1)
 rw [noRef_vs] at hn;have hcn:∀ p∈l.flatten,NoRef p:=by
  intro p hp;obtain ⟨c,hc,hpc⟩:=List.mem_flatten.1 hp;exact hn c hc p hpc
 have hblk:BlkR w (Mut X' F') X' id B fn:=by
  refine ⟨hk,xs,hc.map_rc fun p u f' hp _ hr'=>hr'.move (hcn p hp) (fun _ _=>rfl) (fun _ _ _=>rfl) hMc hτ.symm,.inl ⟨rfl,e,?_⟩⟩;have eA:X'.A id=A:=by simp [X',Ctx.upd,upd]
  have eC:X'.C id=C:=by simp [X',Ctx.upd,upd]
  rw [eA,eC,←hv];exact hr
 refine ⟨X',F',?_,hX,rfl,fun M0 => ?_,hM1,hne⟩
 ·exact {
   hH:=fun i=>by
    rw [St.slot_setSlot];by_cases hi:i=id
    ·subst hi;rw [hid,if_pos rfl]
    ·rw [hne i hi,if_neg hi];exact h.hH i
   hτ:=h.hτ
   hN:=h.hN
   gok:=h.gok
   envs:=All2.mono' (fun E a kk=>⟨kk.defers,kk.size,fun t=>(kk.reg t).frame (fun _ _ _=>rfl) (fun g _=>hMM g) hX⟩) h.envs
   blk:=fun i B' hi=>by
    by_cases hii:i=id
    ·subst hii;obtain rfl:B=B':=by rw [hid] at hi;injection hi
     rw [show F' i=fn by simp [F',upd]];exact hblk
    ·rw [hne i hii] at hi;rw [show F' i=F i by simp [F',upd,hii]];exact (h.blk i B' hi).frame (fun _ _=>rfl) (fun _ _ _=>rfl) (fun g _=>hMM g) hX (by simp [X',Ctx.upd,upd,hii]) (by simp [X',Ctx.upd,upd,hii])
   nd:=fun i B' hi=>by
    by_cases hii:i=id
    ·subst hii;rw [hOwn];exact hnd
    ·rw [hne i hii] at hi;rw [show Own X' F' i=Own X F i from Own_upd_ne hii];exact h.nd i B' hi
   dj:=fun i j B1 B2 hi hj hij g hg hg'=>by
    by_cases hii:i=id
    ·subst hii;have hjj:j≠i:=fun e=>hij e.symm
     rw [hOwn] at hg;rw [hne j hjj] at hj;rw [show Own X' F' j=Own X F j from Own_upd_ne hjj] at hg';exact hdj g hg ⟨j,B2,hj,hg'⟩
    ·rw [hne i hii] at hi;rw [show Own X' F' i=Own X F i from Own_upd_ne hii] at hg;by_cases hjj:j=id
     ·subst hjj;rw [hOwn] at hg';exact hdj g hg' ⟨i,B1,hi,hg⟩
     ·rw [hne j hjj] at hj;rw [show Own X' F' j=Own X F j from Own_upd_ne hjj] at hg';exact h.dj i j B1 B2 hi hj hij g hg hg'
   lt:=fun g hg=>by
    rcases (hM1 g).1 hg with k1|k1
    ·exact h.lt g k1
    ·exact hl.lt g k1
   src:=fun g hg=>by
    rcases (hM1 g).1 hg with k1|k1
    ·exact h.src g k1
    ·exact (hsrc g k1).imp _root_.id .inr
   kept:=h.kept
   win:=fun i x hx=>by
    have hii:i≠id:=by rintro rfl;rw [hwin] at hx;cases hx
    obtain ⟨B',h1,h2,h3,h4⟩:=h.win i x hx;exact ⟨B',by rw [hne i hii];exact h1,h2,by simpa [X',Ctx.upd,upd,hii] using h3,h4⟩ }
 ·refine .ref (by rw [hid];simp) (fun B' hB' => ?_) ⟨_,_,hv⟩;obtain rfl:B=B':=by rw [hid] at hB';injection hB'
  refine ⟨Nat.le_refl _,fun _=>⟨rfl,by simp [B],A.map baseOf,C,hv,hnC,fun _ => ?_,fun _ => ?_⟩⟩
  ·simp [X',Ctx.upd,upd]
  ·have eA:X'.A id=A:=by simp [X',Ctx.upd,upd]
   rw [eA];simp only [Nat.zero_mul];rfl
theorem SimW.adoptAll:∀ (ps:List PV) {X:Ctx} {F:Nat→List Nat} {σ:St} (h:SimW G X F σ acts w) {b:Nat} {Xc:Ctx} {us:List Value} {fp:List Nat} (hr:RCs w M Xc ps us fp) (hn:∀ p∈ps,NoRef p) (hτ:Xc.τ=X.τ)
  (hb:∀ i,b≤i→i<b+(thaw b ps).2.length→X.H i=.fresh)
  (hfN:∀ g∈fp,X.N g) (hM:∀ g,g<w.heap.size→¬ M g→¬ X.N g∧¬ Mut1 X F g) (hnd:fp.Nodup) (hdj:∀ g∈fp,¬ Mut1 X F g) (hsrc:∀ g∈fp,G.own0 g∨G.w0.heap.size≤g),
  ∃ X' F',SimW G X' F' (setSlots σ (thaw b ps).2) acts w∧X.Le X'∧X'.N=X.N∧(thaw b ps).1.length=ps.length ∧
   (∀ (j:Nat) (p':PV) (u:Value),(thaw b ps).1[j]? = some p'→us[j]? = some u→(∀ M',RC w M' X' p' u [])∨(ps[j]? = some p'∧RC w M Xc p' u []))∧(∀ g,Mut1 X' F' g↔Mut1 X F g∨g∈fp)∧(∀ i,(i<b∨b+(thaw b ps).2.length≤i)→X'.H i=X.H i)
 | [],X,F,σ,h,b,Xc,us,fp,hr,hn,hτ,hb,hfN,hM,hnd,hdj,hsrc=>by
  obtain ⟨hl,fps,hfl,rfl,hc⟩:=hr;have:fps=[]:=List.eq_nil_of_length_eq_zero (by rw [hfl,←hl];rfl);subst this;exact ⟨X,F,h,Ctx.Le.refl X,rfl,rfl,by simp [thaw],by simp,fun i hi=>rfl⟩
 | p::r,X,F,σ,h,b,Xc,us,fp,hr,hn,hτ,hb,hfN,hM,hnd,hdj,hsrc=>by
  obtain ⟨hl,fps,hfl,rfl,hc⟩:=hr;cases us with
  | nil=>simp at hl
  | cons u us =>
  cases fps with
  | nil=>simp at hfl
  | cons f fps =>
  have hp0:=hc 0 p u f rfl rfl rfl;have hr':RCs w M Xc r us fps.flatten:=⟨by simpa using hl,fps,by simpa using hfl,rfl,fun j q v g hq hv hg=>hc (j+1) q v g (by simpa using hq) (by simpa using hv) (by simpa using hg)⟩
  simp only [List.flatten_cons] at hfN hnd hdj hsrc ⊢;have hnd2:=List.nodup_append.1 hnd;by_cases hown:∃ k l,p=.vs true k l
  ·obtain ⟨k,l,rfl⟩:=hown;obtain ⟨X1,F1,h1,hX1,hN1,href,hM1,hne⟩:=h.adopt (hb b (Nat.le_refl _) (by simp [thaw])) hp0 (hn _ (by simp)) hτ (fun g hg=>hfN g (by simp [hg])) hM hnd2.1 (fun g hg=>hdj g (by simp [hg])) (fun g hg=>hsrc g (by simp [hg]));obtain ⟨X2,F2,h2,hX2,hN2,hl2,hc2,hM2,hf2⟩:=SimW.adoptAll r h1 (b:=b+1) hr' (fun q hq=>hn q (by simp [hq])) (hτ.trans hX1.tok.symm) (fun i hi hi2=>by rw [hne i (by omega)];exact hb i (by omega) (by simp only [thaw,List.length_cons];omega))
    (fun g hg=>by rw [hN1];exact hfN g (by simp only [lma];exact .inr hg)) (fun g hg hnm=>by
     rw [hN1];have:=hM g hg hnm;refine ⟨this.1,fun hm => ?_⟩;rcases (hM1 g).1 hm with k1|k1
     ·exact this.2 k1
     ·exact this.1 (hfN g (by simp [k1]))) hnd2.2.1 (fun g hg hm=>by
     rcases (hM1 g).1 hm with k1|k1
     ·exact hdj g (by simp only [lma];exact .inr hg) k1
     ·exact hnd2.2.2 g k1 g hg rfl) (fun g hg=>hsrc g (by simp only [lma];exact .inr hg))
   refine ⟨X2,F2,h2,hX1.trans hX2,hN2.trans hN1,by simp [thaw,hl2],fun j p' v hp' hv => ?_,fun g => ?_,fun i hi=>(hf2 i (by simp only [thaw,List.length_cons] at hi;omega)).trans (hne i (by simp only [thaw,List.length_cons] at hi;omega))⟩
   ·cases j with
    | zero =>
     simp only [thaw,List.getElem?_cons_zero,osi] at hp' hv;subst hp' hv;exact .inl fun M'=>(href (fun _=>True)).frame (by simp) (fun _ _ _=>rfl) (fun g _ hg=>(hg trivial).elim) hX2
    | succ j =>
     simp only [thaw,List.getElem?_cons_succ] at hp' hv ⊢;exact hc2 j p' v hp' hv
   ·rw [hM2 g,hM1 g];simp only [lma];exact or_assoc
  ·have hpn:∀ k l,p≠.vs true k l:=fun k l e=>hown ⟨k,l,e⟩
   have hf0:f=[]:=hp0.fp_nil hpn;subst hf0;have ht:thaw b (p::r)=(p::(thaw b r).1,(thaw b r).2):=by
    cases p<;>first|rfl|(rename_i o k l;cases o;rfl;exact (hpn _ _ rfl).elim)
   rw [ht] at hb ⊢;obtain ⟨X2,F2,h2,hX2,hN2,hl2,hc2,hM2,hf2⟩:=SimW.adoptAll r h (b:=b) hr' (fun q hq=>hn q (by simp [hq])) hτ hb (fun g hg=>hfN g (by simpa using hg)) hM (by simpa using hnd) (fun g hg=>hdj g (by simpa using hg)) (fun g hg=>hsrc g (by simpa using hg));refine ⟨X2,F2,h2,hX2,hN2,by simp [hl2],fun j p' v hp' hv => ?_,fun g=>by simpa using hM2 g,hf2⟩;cases j with
   | zero =>
    simp only [List.getElem?_cons_zero,osi] at hp' hv;subst hp' hv;exact .inr ⟨rfl,hp0⟩
   | succ j =>
    simp only [List.getElem?_cons_succ] at hp' hv ⊢;exact hc2 j p' v hp' hv
end
inductive Arg where
 | v (x:R1)
 | o (x:R1)
 | w (c c':List PV)
def R1.cs:R1→List PV
 | .one p=>[p]
 | .agg l=>l
def X0 (τ:Nat→Value) (N:Nat→Prop):Ctx:=⟨fun _=>.fresh,fun _=>none,fun _=>0,τ,N⟩
inductive ArgsR (w:World) (N:Nat→Prop) (τ:Nat→Value):List Arg→List Value→List (List Nat)→List (List Nat)→List (Nat×Nat×Nat)→Prop
 | nil:ArgsR w N τ [] [] [] [] []
 | v {x:R1} {u:Value} {as:List Arg} {us:List Value} {fo fw:List (List Nat)} {ws:List (Nat×Nat×Nat)} (h:R1R w N (X0 τ N) x u []) (hn:∀ p∈x.cs,NoRef p) (t:ArgsR w N τ as us fo fw ws):ArgsR w N τ (.v x::as) (u::us) fo fw ws
 | o {x:R1} {u:Value} {f:List Nat} {as:List Arg} {us:List Value} {fo fw:List (List Nat)} {ws:List (Nat×Nat×Nat)} (h:R1R w N (X0 τ N) x u f) (hn:∀ p∈x.cs,NoRef p) (t:ArgsR w N τ as us fo fw ws):ArgsR w N τ (.o x::as) (u::us) (f::fo) fw ws
 | w {c c':List PV} {z:Nat×Nat} {vs:List Value} {f:List Nat} {as:List Arg} {us:List Value} {fo fw:List (List Nat)} {ws:List (Nat×Nat×Nat)} (hc:CellsAt w z vs) (h:RCs w N (X0 τ N) c vs f) (hn:∀ p∈c,NoRef p) (h0:0<c.length) (t:ArgsR w N τ as us fo fw ws) :
   ArgsR w N τ (.w c c'::as) (.pointer (some (baseOf z))::us) fo (f::fw) ((z.1,z.2,c.length)::ws)
inductive WinsR (w:World) (N:Nat→Prop) (τ:Nat→Value):List Arg→List (Nat×Nat×Nat)→List (List Nat)→Prop
 | nil:WinsR w N τ [] [] []
 | v {x:R1} {as:List Arg} {ws:List (Nat×Nat×Nat)} {fw:List (List Nat)} (t:WinsR w N τ as ws fw):WinsR w N τ (.v x::as) ws fw
 | o {x:R1} {as:List Arg} {ws:List (Nat×Nat×Nat)} {fw:List (List Nat)} (t:WinsR w N τ as ws fw):WinsR w N τ (.o x::as) ws fw
 | w {c c':List PV} {x:Nat×Nat×Nat} {vs:List Value} {f:List Nat} {as:List Arg} {ws:List (Nat×Nat×Nat)} {fw:List (List Nat)} (hc:CellsAt w (x.1,x.2.1) vs) (h:RCs w N (X0 τ N) c' vs f) (hn:∀ p∈c',NoRef p) (hl:c'.length=c.length) (hx:x.2.2=c.length) (t:WinsR w N τ as ws fw) :
   WinsR w N τ (.w c c'::as) (x::ws) (f::fw)
inductive ResR (w:World) (N:Nat→Prop) (τ:Nat→Value):List R1→List Value→List (List Nat)→Prop
 | nil:ResR w N τ [] [] []
 | cons {x:R1} {u:Value} {f:List Nat} {xs:List R1} {us:List Value} {fs:List (List Nat)} (h:R1R w N (X0 τ N) x u f) (hn:∀ p∈x.cs,NoRef p) (t:ResR w N τ xs us fs):ResR w N τ (x::xs) (u::us) (f::fs)
def resV:List Value→Value
 | [v]=>v
 | vs=>.tuple vs.toArray
structure ConPost (w w':World) (τ:Nat→Value) (N:Nat→Prop) (args:List Arg) (res:List R1) (fp:List Nat) (ws:List (Nat×Nat×Nat)) (u:Value):Prop where
 kept:Kept w w' (·∈fp) ws
 ex:∃ (us:List Value) (rf fw:List (List Nat)),u=resV us∧ResR w' (fun g=>N g∨g∈rf.flatten++fw.flatten) τ res us rf∧WinsR w' (fun g=>N g∨g∈rf.flatten++fw.flatten) τ args ws fw ∧
  (rf.flatten++fw.flatten++ws.map (·.1)).Nodup∧∀ g∈rf.flatten++fw.flatten,(g∈fp∨w.heap.size≤g)∧g<w'.heap.size
def Enters (P : Program) (f : FuncId) : Prop := ∃ fn, P.funcs[f]? = some fn ∧ (fn.name == "runtime.NumGoroutine") = false ∧ fn.body.isNone = false
def Con (P:Program) (f:FuncId) (args:List Arg) (res:List R1):Prop :=
 Enters P f∧∀ (w:World) (τ:Nat→Value) (N:Nat→Prop) (us:List Value) (fo fw:List (List Nat)) (ws:List (Nat×Nat×Nat)),ArgsR w (fun g=>N g∨g∈fo.flatten++fw.flatten) τ args us fo fw ws →
  (fo.flatten++fw.flatten++ws.map (·.1)).Nodup→(∀ g∈ws.map (·.1),N g)→(∀ g∈fo.flatten++fw.flatten,¬ N g)→(∀ g,N g→g<w.heap.size) →
  Calls P f us.toArray w fun e w'=>∃ u,e=.returned u∧ConPost w w' τ N args res (fo.flatten++fw.flatten) ws u
def winBlks:List Arg→List Slot
 | []=>[]
 | .w c _::r=>.live ⟨2,c.length,[],[c]⟩::winBlks r
 | _::r=>winBlks r
def thawR (b:Nat):R1→R1
 | .one p=>.one ((thaw b [p]).1.headD .un)
 | .agg l=>.agg (thaw b l).1
def regsOf:Nat→Nat→Nat→List Arg→List (Nat×RV)
 | _,_,_,[]=>[]
 | i,wid,b,.v x::r=>(i,.r x)::regsOf (i+1) wid b r
 | i,wid,b,.w _ _::r=>(i,.r (.one (.ptr wid 1 0 0)))::regsOf (i+1) (wid+1) b r
 | i,wid,b,.o x::r=>(i,.r (thawR b x))::regsOf (i+1) wid (b+(thaw b x.cs).2.length) r
def slotsOf:Nat→List Arg→List (Nat×Slot)
 | _,[]=>[]
 | b,.o x::r=>(thaw b x.cs).2++slotsOf (b+(thaw b x.cs).2.length) r
 | b,_::r=>slotsOf b r
def entry (n:Nat) (args:List Arg):St:=setSlots ⟨⟨n,regsOf 0 0 (winBlks args).length args⟩,[],winBlks args⟩ (slotsOf (winBlks args).length args)
section
variable {P:Program} {G:Fr} {X:Ctx} {F:Nat→List Nat} {σ:St} {acts:List Act} {w w':World} {M M' N:Nat→Prop} {τ:Nat→Value}
theorem slotAt_get:∀ (l:List Slot) (i:Nat),slotAt l i=(l[i]?).getD .fresh
 | [],i=>by simp [slotAt]
 | s::l,0=>by simp [slotAt]
 | s::l,i+1=>by simp [slotAt,slotAt_get l i]
theorem setSlots_append:∀ (l m:List (Nat×Slot)) (σ:St),setSlots σ (l++m)=setSlots (setSlots σ l) m
 | [],m,σ=>rfl
 | (i,s)::l,m,σ=>by simp [setSlots,setSlots_append l m]
theorem ArgsR.len {args:List Arg} {us:List Value} {fo fw:List (List Nat)} {ws:List (Nat×Nat×Nat)} (h:ArgsR w N τ args us fo fw ws):args.length=us.length∧(winBlks args).length=ws.length∧fw.length=ws.length:=by
 induction h with
 | nil=>exact ⟨rfl,rfl,rfl⟩
 | v _ _ _ ih=>exact ⟨by simp [ih.1],ih.2.1,ih.2.2⟩
 | o _ _ _ ih=>exact ⟨by simp [ih.1],ih.2.1,ih.2.2⟩
 | w _ _ _ _ _ ih=>exact ⟨by simp [ih.1],by simp [winBlks,ih.2.1],by simp [ih.2.2]⟩
theorem ArgsR.win {args:List Arg} {us:List Value} {fo fw:List (List Nat)} {ws:List (Nat×Nat×Nat)} (h:ArgsR w N τ args us fo fw ws):∀ (i:Nat) (s:Slot) (x:Nat×Nat×Nat) (f:List Nat),(winBlks args)[i]? = some s→ws[i]? = some x→fw[i]? = some f →
  ∃ c vs,s=.live ⟨2,c.length,[],[c]⟩∧x.2.2=c.length∧CellsAt w (x.1,x.2.1) vs∧RCs w N (X0 τ N) c vs f∧(∀ p∈c,NoRef p)∧0<c.length:=by
 induction h with
 | nil=>intro i s x f h1;simp [winBlks] at h1
 | v _ _ _ ih=>exact ih
 | o _ _ _ ih=>exact ih
 | @w c c' z vs f as us fo fw ws hc h hn h0 t ih =>
  intro i s x f' h1 h2 h3;cases i with
  | zero =>
   simp [winBlks] at h1 h2 h3;subst h1 h2 h3;exact ⟨c,vs,rfl,rfl,hc,h,hn,h0⟩
  | succ i=>exact ih i s x f' (by simpa [winBlks] using h1) (by simpa using h2) (by simpa using h3)
theorem nodup_flat {l:List (List Nat)} (h:l.flatten.Nodup):(∀ x∈l,x.Nodup)∧∀ (i j:Nat) (x y:List Nat),l[i]? = some x→l[j]? = some y→i≠j→∀ g∈x,g∉y:=by
 have:=List.pairwise_flatten.1 h;refine ⟨this.1,fun i j x y hx hy hij g hg hg' => ?_⟩;obtain ⟨hi,rfl⟩:=List.getElem?_eq_some_iff.1 hx;obtain ⟨hj,rfl⟩:=List.getElem?_eq_some_iff.1 hy;have hp:=List.pairwise_iff_getElem.1 this.2;rcases Nat.lt_or_gt_of_ne hij with hlt|hlt
 ·exact hp i j hi hj hlt g hg g hg' rfl
 ·exact hp j i hj hi hlt g hg' g hg rfl
def frOf (w:World) (τ:Nat→Value) (N:Nat→Prop) (fp:List Nat) (ws:List (Nat×Nat×Nat)):Fr:=⟨w,(·∈fp),ws,τ,N⟩
theorem Kept.refl (w:World) (own:Nat→Prop) {wins:List (Nat×Nat×Nat)} (h:∀ x∈wins,∃ c ty fz,w.heap[x.1]? = some (.cells c ty fz)):Kept w w own wins :=
 ⟨rfl,rfl,rfl,Nat.le_refl _,fun _ _ _ _=>rfl,fun x hx=>by obtain ⟨c,ty,fz,hc⟩:=h x hx;exact ⟨c,ty,fz,c,hc,hc,rfl,fun _ _=>rfl⟩⟩
theorem CellsAt.obj {z:Nat×Nat} {vs:List Value} (h:CellsAt w z vs) (h0:0<vs.length):∃ c ty fz,w.heap[z.1]? = some (.cells c ty fz):=by
 have:=(h 0 _ (List.getElem?_eq_getElem h0)).1;rw [add_baseOf] at this;unfold World.cell? at this;split at this
 ·rename_i cs ty fz hh;exact ⟨cs,ty,fz,hh⟩
 ·cases this
theorem entry_base {args:List Arg} {us:List Value} {fo fw:List (List Nat)} {ws:List (Nat×Nat×Nat)} (h:ArgsR w N τ args us fo fw ws) (hnd:(fo.flatten++fw.flatten++ws.map (·.1)).Nodup) (hN:∀ g∈fo.flatten++fw.flatten++ws.map (·.1),N g)
  {N1:Nat→Prop} (hN1:∀ g,N1 g→N g) (hN2:∀ g∈fo.flatten++fw.flatten,¬ N1 g) (hN3:∀ g,N1 g→g<w.heap.size) (n:Nat) (a:Act) (ha:a.defers=[]) (hs:a.tmps.size=n) :
  ∃ X F,SimW (frOf w τ N1 (fo.flatten++fw.flatten) ws) X F ⟨⟨n,[]⟩,[],winBlks args⟩ [a] w∧X.N=N∧X.τ=τ∧(∀ i,(winBlks args).length≤i→X.H i=.fresh)∧(∀ g,Mut1 X F g→g∈fw.flatten++ws.map (·.1)) ∧
   (∀ (i:Nat) (x:Nat×Nat×Nat),ws[i]? = some x→∀ M,RC w M X (.ptr i 1 0 0) (.pointer (some (baseOf (x.1,x.2.1)))) []):=by
 obtain ⟨h1,h2,h3⟩:=h.len
 let X:Ctx:=⟨slotAt (winBlks args),fun i=>(ws[i]?).map fun x=>(x.1,x.2.1),fun _=>0,τ,N⟩
 let F:Nat→List Nat:=fun i=>(fw[i]?).getD []
 have hnd1:=List.nodup_append.1 hnd;have hnd2:=List.nodup_append.1 hnd1.1;obtain ⟨hfn,hfd⟩:=nodup_flat hnd2.2.1;have live:∀ i B,X.H i=.live B→∃ c vs x f,ws[i]? = some x∧fw[i]? = some f∧B=⟨2,c.length,[],[c]⟩∧x.2.2=c.length∧CellsAt w (x.1,x.2.1) vs∧RCs w N (X0 τ N) c vs f∧(∀ p∈c,NoRef p)∧0<c.length:=by
  intro i B hi;have hi':(winBlks args)[i]?.getD .fresh=.live B:=by rw [← slotAt_get];exact hi
  cases hb:(winBlks args)[i]? with
  | none=>rw [hb] at hi';cases hi'
  | some s =>
   rw [hb] at hi';simp at hi';subst hi';have hlt:i<(winBlks args).length:=(List.getElem?_eq_some_iff.1 hb).1;have hx:=List.getElem?_eq_getElem (show i<ws.length by omega);have hf:=List.getElem?_eq_getElem (show i<fw.length by omega);obtain ⟨c,vs,e,k1,k2,k3,k4,k5⟩:=h.win i _ _ _ hb hx hf;injection e with e;exact ⟨c,vs,_,_,hx,hf,e,k1,k2,k3,k4,k5⟩
 have own:∀ i x f,ws[i]? = some x→fw[i]? = some f→Own X F i=x.1::f:=by
  intro i x f hx hf;simp [Own,X,F,hx,hf]
 have hm1:∀ g,Mut1 X F g→g∈fw.flatten++ws.map (·.1):=by
  rintro g ⟨i,B,hi,hg⟩;obtain ⟨c,vs,x,f,hx,hf,_⟩:=live i B hi;rw [own i x f hx hf] at hg;rcases List.mem_cons.1 hg with rfl|hg
  ·exact lma.2 (.inr (List.mem_map.2 ⟨x,List.mem_of_getElem? hx,rfl⟩))
  ·exact lma.2 (.inl (List.mem_flatten.2 ⟨f,List.mem_of_getElem? hf,hg⟩))
 have hMN:∀ g,Mut X F g→N g:=fun g hg=>hg.elim id fun k=>hN g (by have:=hm1 g k;simp only [lma] at this ⊢;rcases this with k|k;exact .inl (.inr k);exact .inr k)
 have wx:∀ (i:Nat) (x:Nat×Nat×Nat),ws[i]? = some x→x.1∈ws.map (·.1):=fun i x hx=>List.mem_map.2 ⟨x,List.mem_of_getElem? hx,rfl⟩
 have hwz:∀ (i j:Nat) (x y:Nat×Nat×Nat),ws[i]? = some x→ws[j]? = some y→i≠j→x.1≠y.1:=by
  intro i j x y hx hy hij e;have hp:=List.pairwise_iff_getElem.1 hnd1.2.1;obtain ⟨hi,rfl⟩:=List.getElem?_eq_some_iff.1 hx;obtain ⟨hj,rfl⟩:=List.getElem?_eq_some_iff.1 hy;rcases Nat.lt_or_gt_of_ne hij with hlt|hlt
  ·exact hp i j (by simpa using hi) (by simpa using hj) hlt (by simpa using e)
  ·exact hp j i (by simpa using hj) (by simpa using hi) hlt (by simpa using e.symm)
 refine ⟨X,F,?_,rfl,rfl,fun i hi => ?_,hm1,fun i x hx M => ?_⟩
 ·exact {
   hH:=fun i=>rfl
   hτ:=rfl
   hN:=hN1
   gok:=⟨hN2,hN3⟩
   envs:=.cons ⟨ha,hs,fun t=>by simp [Env.get,look,RVR]⟩ .nil
   blk:=fun i B hi=>by
    obtain ⟨c,vs,x,f,hx,hf,rfl,hxl,hc,hr,hn,h0⟩:=live i B hi;have hFi:F i=f:=by simp [F,hf]
    refine ⟨by simp,vs,?_,.inr ⟨by simp,(x.1,x.2.1),by simp [X,hx],rfl,hc⟩⟩;rw [hFi];have:(([c]:List (List PV))).flatten=c:=by simp
    rw [this];exact hr.map_rc fun p u f' hp _ hr'=>hr'.move (hn p hp) (fun _ _=>rfl) (fun _ _ _=>rfl) (fun g _ hg hm=>hg (hMN g hm)) rfl
   nd:=fun i B hi=>by
    obtain ⟨c,vs,x,f,hx,hf,_⟩:=live i B hi;rw [own i x f hx hf];exact List.nodup_cons.2 ⟨fun hg=>hnd1.2.2 x.1 (lma.2 (.inr (List.mem_flatten.2 ⟨f,List.mem_of_getElem? hf,hg⟩))) x.1 (wx i x hx) rfl,hfn f (List.mem_of_getElem? hf)⟩
   dj:=fun i j B B' hi hj hij g hg hg'=>by
    obtain ⟨c,vs,x,f,hx,hf,_⟩:=live i B hi;obtain ⟨c',vs',x',f',hx',hf',_⟩:=live j B' hj;rw [own i x f hx hf] at hg;rw [own j x' f' hx' hf'] at hg';rcases List.mem_cons.1 hg with rfl|hg<;>rcases List.mem_cons.1 hg' with e|hg'
    ·exact hwz i j x x' hx hx' hij e
    ·exact hnd1.2.2 x.1 (lma.2 (.inr (List.mem_flatten.2 ⟨f',List.mem_of_getElem? hf',hg'⟩))) x.1 (wx i x hx) rfl
    ·exact hnd1.2.2 g (lma.2 (.inr (List.mem_flatten.2 ⟨f,List.mem_of_getElem? hf,hg⟩))) x'.1 (wx j x' hx') e
    ·exact hfd i j f f' hf hf' hij g hg hg'
   lt:=fun g ⟨i,B,hi,hg⟩=>by
    obtain ⟨c,vs,x,f,hx,hf,_,_,hc,hr,_,h0⟩:=live i B hi;rw [own i x f hx hf] at hg;rcases List.mem_cons.1 hg with rfl|hg
    ·obtain ⟨c,ty,fz,hh⟩:=hc.obj (by rw [← hr.1];exact h0);exact (Array.getElem?_eq_some_iff.1 hh).1
    ·exact hr.lt g hg
   src:=fun g hg=>by
    have:=hm1 g hg;rcases lma.1 this with k|k
    ·exact .inl (lma.2 (.inr k))
    ·obtain ⟨x,hx,rfl⟩:=List.mem_map.1 k;exact .inr (.inl ⟨x,hx,rfl⟩)
   kept:=Kept.refl w _ fun x hx=>by
    obtain ⟨i,hi⟩:=List.getElem?_of_mem hx;have hi:ws[i]? = some x:=hi;have hlt:=(List.getElem?_eq_some_iff.1 hi).1;have hb:=List.getElem?_eq_getElem (show i<(winBlks args).length by omega);obtain ⟨c,vs,_,_,hc,hr,_,h0⟩:=h.win i _ _ _ hb hi (List.getElem?_eq_getElem (show i<fw.length by omega));exact hc.obj (by have:=hr.1;omega)
   win:=fun i x hx=>by
    have hx':ws[i]? = some x:=hx;have hlt:=(List.getElem?_eq_some_iff.1 hx').1;have hb:=List.getElem?_eq_getElem (show i<(winBlks args).length by omega);obtain ⟨c,vs,e,hxl,_⟩:=h.win i _ _ _ hb hx' (List.getElem?_eq_getElem (show i<fw.length by omega));refine ⟨⟨2,c.length,[],[c]⟩,?_,rfl,by simp [X,hx'],hxl.symm⟩;show slotAt _ i=_;rw [slotAt_get,hb,e];rfl }
 ·show slotAt _ i=_;rw [slotAt_get,List.getElem?_eq_none hi];rfl
 ·have hlt:=(List.getElem?_eq_some_iff.1 hx).1;have hb:=List.getElem?_eq_getElem (show i<(winBlks args).length by omega);obtain ⟨c,vs,e,hxl,_⟩:=h.win i _ _ _ hb hx (List.getElem?_eq_getElem (show i<fw.length by omega));have hH:X.H i=.live ⟨2,c.length,[],[c]⟩:=by show slotAt _ i=_;rw [slotAt_get,hb,e];rfl
  refine .ptr (by rw [hH];simp) (fun B hB => ?_) ⟨_,rfl⟩;rw [hH] at hB;injection hB with hB;subst hB
  exact ⟨Nat.le_refl _,fun _=>⟨by decide,(x.1,x.2.1),by simp [X,hx],by rw [add_baseOf];simp [baseOf]⟩⟩
end
section
variable {P:Program} {G:Fr} {X:Ctx} {F:Nat→List Nat} {σ:St} {acts:List Act} {w w':World} {M M' N:Nat→Prop} {τ:Nat→Value}
theorem R1R.cs {x:R1} {u:Value} {f:List Nat} (h:R1R w M X x u f):∃ xs,RCs w M X x.cs xs f∧((∃ p,x=.one p∧xs=[u])∨(∃ l,x=.agg l∧u=.agg xs.toArray)):=by
 cases x with
 | one p=>exact ⟨[u],by have:=RCs.cons (h:RC w M X p u f) RCs.nil;rw [List.append_nil] at this;exact this,.inl ⟨p,rfl,rfl⟩⟩
 | agg l=>obtain ⟨xs,h1,h2⟩:=h;exact ⟨xs,h2,.inr ⟨l,rfl,h1⟩⟩
theorem SimW.adoptR (h:SimW G X F σ acts w) {x:R1} {u:Value} {f:List Nat} {b:Nat} {Xc:Ctx} (hr:R1R w M Xc x u f) (hn:∀ p∈x.cs,NoRef p) (hτ:Xc.τ=X.τ)
  (hb:∀ i,b≤i→i<b+(thaw b x.cs).2.length→X.H i=.fresh)
  (hfN:∀ g∈f,X.N g) (hM:∀ g,g<w.heap.size→¬ M g→¬ X.N g∧¬ Mut1 X F g) (hnd:f.Nodup) (hdj:∀ g∈f,¬ Mut1 X F g) (hsrc:∀ g∈f,G.own0 g∨G.w0.heap.size≤g) :
  ∃ X' F',SimW G X' F' (setSlots σ (thaw b x.cs).2) acts w∧X.Le X'∧X'.N=X.N∧(∀ M',(∀ g,g<w.heap.size→¬ M g→¬ M' g)→R1R w M' X' (thawR b x) u [])∧(∀ g,Mut1 X' F' g↔Mut1 X F g∨g∈f)∧(∀ i,(i<b∨b+(thaw b x.cs).2.length≤i)→X'.H i=X.H i):=by
 obtain ⟨xs,hc,hx⟩:=hr.cs;obtain ⟨X',F',h1,hX,hN,hl,hcell,hM1,hf⟩:=SimW.adoptAll x.cs h (b:=b) hc hn hτ hb hfN hM hnd hdj hsrc;refine ⟨X',F',h1,hX,hN,fun M' hMM => ?_,hM1,hf⟩;have hrcs:RCs w M' X' (thaw b x.cs).1 xs []:=by
  refine .of_nofp (by rw [hl];exact hc.1) fun j p' v hp' hv => ?_
  rcases hcell j p' v hp' hv with k|⟨k1,k2⟩
  ·exact k M'
  ·exact k2.move (hn _ (List.mem_of_getElem? k1)) (by simp) (fun _ _ _=>rfl) hMM (hX.tok.trans hτ.symm)
 rcases hx with ⟨p,rfl,rfl⟩|⟨l,rfl,rfl⟩
 ·have hlen:(thaw b [p]).1.length=1:=hl;cases ht:(thaw b [p]).1 with
  | nil=>rw [ht] at hlen;cases hlen
  | cons q r =>
   have:=hrcs.get_nofp 0 q u (by simp [R1.cs,ht]) rfl;simpa [thawR,ht,R1R] using this
 ·exact ⟨xs,rfl,hrcs⟩
theorem entry_own {args:List Arg} {us:List Value} {fo fw:List (List Nat)} {ws:List (Nat×Nat×Nat)} (h:ArgsR w N τ args us fo fw ws) :
  ∀ {X:Ctx} {F:Nat→List Nat} {σ:St} (i wid b:Nat),SimW G X F σ acts w→X.N=N→X.τ=τ→(∀ j,b≤j→X.H j=.fresh) →
  (∀ (j:Nat) (x:Nat×Nat×Nat),ws[j]? = some x→∀ M,RC w M X (.ptr (wid+j) 1 0 0) (.pointer (some (baseOf (x.1,x.2.1)))) []) →
  (∀ g∈fo.flatten,N g)→fo.flatten.Nodup→(∀ g,Mut1 X F g→N g∧g∉fo.flatten)→(∀ g∈fo.flatten,G.own0 g) →
  ∃ X' F',SimW G X' F' (setSlots σ (slotsOf b args)) acts w∧X.Le X'∧X'.N=N∧(∀ g,Mut1 X' F' g→N g)∧∀ e∈regsOf i wid b args,∃ j u,e.1=i+j∧us[j]? = some u∧RVR w N X' e.2 u:=by
 induction h with
 | nil=>intro X F σ i wid b hs hN hτ hb hp hf hnd hm ho;exact ⟨X,F,hs,Ctx.Le.refl X,hN,fun g hg=>(hm g hg).1,by simp [regsOf]⟩
 | @v x u as us fo fw ws hx hn t ih =>
  intro X F σ i wid b hs hN hτ hb hp hf hnd hm ho;obtain ⟨X',F',h1,hX,hN',hm',hr⟩:=ih (i+1) wid b hs hN hτ hb hp hf hnd hm ho;refine ⟨X',F',h1,hX,hN',hm',fun e he => ?_⟩;rcases List.mem_cons.1 he with rfl|he
  ·refine ⟨0,u,rfl,rfl,?_⟩;show R1R w N X' x u [];cases x with
   | one p=>exact RC.move hx (hn p (by simp [R1.cs])) (by simp) (fun _ _ _=>rfl) (fun _ _ k=>k) (hX.tok.trans hτ)
   | agg l =>
    obtain ⟨xs,e1,e2⟩:=hx;exact ⟨xs,e1,e2.map_rc fun p u f hp _ hr'=>hr'.move (hn p hp) (fun _ _=>rfl) (fun _ _ _=>rfl) (fun _ _ k=>k) (hX.tok.trans hτ)⟩
  ·obtain ⟨j,u',e1,e2,e3⟩:=hr e he;exact ⟨j+1,u',by omega,by simpa using e2,e3⟩
 | @o x u f as us fo fw ws hx hn t ih =>
  intro X F σ i wid b hs hN hτ hb hp hf hnd hm ho;simp only [List.flatten_cons] at hf hnd hm ho;have hnd2:=List.nodup_append.1 hnd;obtain ⟨X1,F1,h1,hX1,hN1,hr1,hM1,hf1⟩:=hs.adoptR (b:=b) hx hn (show (X0 τ N).τ=X.τ from hτ.symm) (fun i hi _=>hb i hi) (fun g hg=>by rw [hN];exact hf g (by simp [hg])) (fun g _ hg=>⟨by rw [hN];exact hg,fun k=>hg (hm g k).1⟩) hnd2.1
   (fun g hg k=>(hm g k).2 (by simp [hg])) (fun g hg=>.inl (ho g (by simp [hg])))
  obtain ⟨X',F',h2,hX2,hN2,hm2,hr2⟩:=ih (i+1) wid (b+(thaw b x.cs).2.length) h1 (hN1.trans hN) (hX1.tok.trans hτ) (fun j hj=>by rw [hf1 j (.inr hj)];exact hb j (by omega))
   (fun j y hy M=>(hp j y hy (fun _=>True)).frame (by simp) (fun _ _ _=>rfl) (fun g _ k=>(k trivial).elim) hX1) (fun g hg=>hf g (by simp only [lma];exact .inr hg)) hnd2.2.1
   (fun g hg=>by
    rcases (hM1 g).1 hg with k|k
    ·exact ⟨(hm g k).1,fun hh=>(hm g k).2 (by simp only [lma];exact .inr hh)⟩
    ·exact ⟨hf g (by simp [k]),fun hh=>hnd2.2.2 g k g hh rfl⟩) (fun g hg=>ho g (by simp only [lma];exact .inr hg))
  refine ⟨X',F',?_,hX1.trans hX2,hN2,hm2,fun e he => ?_⟩
  ·simp only [slotsOf,setSlots_append];exact h2
  ·rcases List.mem_cons.1 he with rfl|he
   ·refine ⟨0,u,rfl,rfl,?_⟩;show R1R w N X' (thawR b x) u [];exact (hr1 N fun _ _ k=>k).frame (by simp) (fun _ _ _=>rfl) (fun _ _ k=>k) hX2
   ·obtain ⟨j,u',e1,e2,e3⟩:=hr2 e he;exact ⟨j+1,u',by omega,by simpa using e2,e3⟩
 | @w c c' z vs f as us fo fw ws hc hcr hn h0 t ih =>
  intro X F σ i wid b hs hN hτ hb hp hf hnd hm ho;obtain ⟨X',F',h1,hX,hN',hm',hr⟩:=ih (i+1) (wid+1) b hs hN hτ hb (fun j y hy M=>by
   have:=hp (j+1) y (by simpa using hy) M
   rwa [show wid+(j+1)=wid+1+j by omega] at this) hf hnd hm ho
  refine ⟨X',F',h1,hX,hN',hm',fun e he => ?_⟩;rcases List.mem_cons.1 he with rfl|he
  ·refine ⟨0,_,rfl,rfl,?_⟩;show RC w N X' (.ptr wid 1 0 0) _ [];exact (hp 0 _ rfl N).frame (by simp) (fun _ _ _=>rfl) (fun _ _ k=>k) hX
  ·obtain ⟨j,u',e1,e2,e3⟩:=hr e he;exact ⟨j+1,u',by omega,by simpa using e2,e3⟩
theorem look_rel {l:List (Nat×RV)} {val:Nat→Value} (h:∀ e∈l,RVR w M X e.2 (val e.1)) (t:Nat):RVR w M X (look l t) (val t):=by
 induction l with
 | nil=>trivial
 | cons e l ih =>
  obtain ⟨s,v⟩:=e;simp only [look];split
  ·rename_i hts;subst hts;exact h (t,v) (by simp)
  ·exact ih fun e he=>h e (by simp [he])
theorem setSlots_env':∀ (l:List (Nat×Slot)) (σ:St) (E:Env),{ setSlots σ l with env:=E }=setSlots { σ with env:=E } l
 | [],σ,E=>rfl
 | (i,s)::l,σ,E=>by simp only [setSlots];rw [setSlots_env' l];rfl
theorem SimW.reEnv {a:Act} (h:SimW G X F σ (a::acts) w) {E:Env} (hE:EnvR w (Mut X F) X E a):SimW G X F { σ with env:=E } (a::acts) w where
 hH:=h.hH
 hτ:=h.hτ
 hN:=h.hN
 gok:=h.gok
 envs:=by cases h.envs with|cons _ t=>exact .cons hE t
 blk:=h.blk
 nd:=h.nd
 dj:=h.dj
 lt:=h.lt
 src:=h.src
 kept:=h.kept
 win:=h.win
theorem entry_sim {args:List Arg} {us:List Value} {fo fw:List (List Nat)} {ws:List (Nat×Nat×Nat)} (h:ArgsR w N τ args us fo fw ws) (hnd:(fo.flatten++fw.flatten++ws.map (·.1)).Nodup) (hN:∀ g∈fo.flatten++fw.flatten++ws.map (·.1),N g)
  {N1:Nat→Prop} (hN1:∀ g,N1 g→N g) (hN2:∀ g∈fo.flatten++fw.flatten,¬ N1 g) (hN3:∀ g,N1 g→g<w.heap.size) (n:Nat) (hl:us.length≤n) :
  Sim (frOf w τ N1 (fo.flatten++fw.flatten) ws) (entry n args) [{ tmps:=us.toArray++Array.replicate (n-us.toArray.size) undef,defers:=[] }] w:=by
 have hnd1:=List.nodup_append.1 hnd;have hnd2:=List.nodup_append.1 hnd1.1;obtain ⟨h1,h2,h3⟩:=h.len;obtain ⟨X,F,hs,hXN,hXτ,hf,hm,hp⟩:=entry_base h hnd hN hN1 hN2 hN3 n { tmps:=us.toArray++Array.replicate (n-us.toArray.size) undef,defers:=[] } rfl (by simp;omega);obtain ⟨X',F',h4,hX,hN',hm',hr⟩:=entry_own (G:=frOf w τ N1 (fo.flatten++fw.flatten) ws) h 0 0 (winBlks args).length hs hXN hXτ hf (fun j x hx M=>by rw [Nat.zero_add];exact hp j x hx M)
  (fun g hg=>hN g (by simp only [lma];exact .inl (.inl hg))) hnd2.1 (fun g hg=>by
   have:=hm g hg;refine ⟨hN g (by simp only [lma] at this ⊢;rcases this with k|k;exact .inl (.inr k);exact .inr k),fun hh => ?_⟩;rcases lma.1 this with k|k
   ·exact hnd2.2.2 g hh g k rfl
   ·exact hnd1.2.2 g (lma.2 (.inl hh)) g k rfl) (fun g hg=>lma.2 (.inl hg))
 have h5:=h4.reEnv (E:=⟨n,regsOf 0 0 (winBlks args).length args⟩) ⟨rfl,by simp;omega,fun t => ?_⟩
 ·rw [setSlots_env'] at h5;exact ⟨_,_,h5.reN N1 (fun _ hg=>hg) fun g _ hg=>.inl (by rw [hN'];exact hN1 g hg)⟩
 ·have hMN:∀ g,Mut X' F' g→N g:=fun g hg=>hg.elim (fun k=>by rw [hN'] at k;exact k) (hm' g)
  refine look_rel (val:=fun t=>(us.toArray++Array.replicate (n-us.toArray.size) undef).getD t undef) (fun e he => ?_) t;obtain ⟨j,u,e1,e2,e3⟩:=hr e he;have hlt:=(List.getElem?_eq_some_iff.1 e2).1;have:(us.toArray++Array.replicate (n-us.toArray.size) undef).getD e.1 undef=u:=by
   rw [e1,Nat.zero_add,Array.getD_eq_getD_getElem?,Array.getElem?_append_left (by simpa using hlt)];simp [e2]
  show RVR _ _ _ _ (Array.getD _ _ _);rw [this];exact e3.frame (fun _ _ _=>rfl) (fun g _ hg hm=>hg (hMN g hm)) (Ctx.Le.refl _)
end
def takeP (σ:St):PV→Option (PV×List Nat)
 | .ref id lo len full=>match σ.slot id with
  | .live B=>if lo=0∧len=full∧B.l.length=full∧B.kd=0 then some (.vs true B.k B.l,[id]) else none
  | _=>none
 | .ptr .. => none
 | p=>some (p,[])
def takeL (σ:St):List PV→Option (List PV×List Nat)
 | []=>some ([],[])
 | p::r=>match takeP σ p,takeL σ r with
  | some (q,i),some (qs,is)=>some (q::qs,i++is)
  | _,_=>none
def takeR (σ:St):R1→Option (R1×List Nat)
 | .one p=>match takeP σ p with
  | some (q,i)=>some (.one q,i)
  | none=>none
 | .agg l=>match takeL σ l with
  | some (q,i)=>some (.agg q,i)
  | none=>none
section
variable {P:Program} {G:Fr} {X X':Ctx} {F:Nat→List Nat} {σ:St} {acts:List Act} {w w':World} {M M' N:Nat→Prop} {τ:Nat→Value}
theorem SimW.takeP_ok (h:SimW G X F σ acts w) {p q:PV} {ids:List Nat} {u:Value} {f:List Nat} (hr:RC w (Mut X F) X p u f) (ht:takeP σ p=some (q,ids)) (hn:NoRef q) (hfn:f.Nodup) :
  ∃ f',(∀ (M':Nat→Prop) (X':Ctx),X'.τ=X.τ→(∀ g,g<w.heap.size→¬ Mut X F g→¬ M' g)→RC w M' X' q u f')∧f'.Nodup∧(∀ i∈ids,∃ B,X.H i=.live B)∧ids.Nodup∧((ids=[]∧f'=f)∨∃ i,ids=[i]∧f'=Own X F i):=by
 have plain:∀ {p:PV},RC w (Mut X F) X p u f→NoRef p→∃ f',(∀ (M':Nat→Prop) (X':Ctx),X'.τ=X.τ→(∀ g,g<w.heap.size→¬ Mut X F g→¬ M' g)→RC w M' X' p u f')∧f'.Nodup∧(∀ i∈([]:List Nat),∃ B,X.H i=.live B)∧([]:List Nat).Nodup∧((([]:List Nat)=[]∧f'=f)∨∃ i,([]:List Nat)=[i]∧f'=Own X F i):=by
  intro p hr hn;exact ⟨f,fun M' X' hτ hM=>hr.move hn (fun _ _=>rfl) (fun _ _ _=>rfl) hM hτ,hfn,by simp,by simp,.inl ⟨rfl,rfl⟩⟩
 unfold takeP at ht;split at ht
 ·rename_i id lo len full;split at ht
  ·rename_i B hB;split at ht
   ·rename_i hc;obtain ⟨rfl,rfl,hl,hkd⟩:=hc;simp only [osi,Prod.mk.injEq] at ht;obtain ⟨rfl,rfl⟩:=ht;have hid:X.H id=.live B:=by rw [h.hH];exact hB
    obtain ⟨h0,_,hlive⟩:=hr.ref_inv;obtain ⟨_,h3⟩:=hlive B hid;obtain ⟨_,_,A,c,hv,hlc,hA0,hA1⟩:=h3 hl;obtain ⟨hA,hC⟩:=hA0 rfl;obtain ⟨hk,xs,hcs,hrow⟩:=h.blk id B hid;obtain ⟨e,hr'⟩:∃ e,w.ownsRow 0 e B.k (.slice ((X.A id).map baseOf) B.l.length (X.C id)) B.l.length xs:=by
     rcases hrow with ⟨_,k⟩|⟨k,_⟩
     ·exact k
     ·exact (k hkd).elim
    have hu:u=.slice ((X.A id).map baseOf) B.l.length (X.C id):=by rw [hv,hA,hC,hl]
    have hob:u.ownBlock.toList=((X.A id).map (·.1)).toList:=by rw [hu];cases X.A id<;>rfl
    rw [noRef_vs] at hn;refine ⟨Own X F id,fun M' X' hτ hM => ?_,h.nd id B hid,by simpa using ⟨B,hid⟩,by simp,.inr ⟨id,rfl,rfl⟩⟩;obtain ⟨hl2,fps,hfl,hF,hrc⟩:=hcs;have:RC w M' X' (.vs true B.k B.l) u (u.ownBlock.toList++fps.flatten):=by
     refine .own e (by rw [hu];exact hr') hk hl2 hfl fun j p v f hp hv' hf' => ?_
     exact (hrc j p v f hp hv' hf').move (mem_of_flat hn hp) (fun _ _=>rfl) (fun _ _ _=>rfl) hM hτ
    rw [hob] at this;rw [show Own X F id=((X.A id).map (·.1)).toList++fps.flatten by rw [← hF];rfl];exact this
   ·cases ht
  ·cases ht
 ·cases ht
 ·simp only [osi,Prod.mk.injEq] at ht;obtain ⟨rfl,rfl⟩:=ht;exact plain hr hn
theorem SimW.takeL_ok (h:SimW G X F σ acts w):∀ {ps qs:List PV} {ids:List Nat} {us:List Value} {fp:List Nat} (hr:RCs w (Mut X F) X ps us fp) (ht:takeL σ ps=some (qs,ids)) (hn:∀ q∈qs,NoRef q) (hfn:fp.Nodup) (hid:ids.Nodup) (hd:∀ i∈ids,∀ g∈Own X F i,g∉fp),
  ∃ f',(∀ (M':Nat→Prop) (X':Ctx),X'.τ=X.τ→(∀ g,g<w.heap.size→¬ Mut X F g→¬ M' g)→RCs w M' X' qs us f')∧f'.Nodup∧(∀ i∈ids,∃ B,X.H i=.live B)∧∀ g∈f',g∈fp∨∃ i∈ids,g∈Own X F i
 | [],qs,ids,us,fp,hr,ht,hn,hfn,hid,hd=>by
  simp [takeL] at ht;obtain ⟨rfl,rfl⟩:=ht;have:us=[]:=List.eq_nil_of_length_eq_zero hr.1.symm;subst this;exact ⟨[],fun _ _ _ _=>RCs.nil,by simp,by simp,by simp⟩
 | p::ps,qs,ids,us,fp,hr,ht,hn,hfn,hid,hd=>by
  obtain ⟨hl,fps,hfl,rfl,hc⟩:=hr;cases us with
  | nil=>simp at hl
  | cons u us =>
  cases fps with
  | nil=>simp at hfl
  | cons f fps =>
  have hp0:=hc 0 p u f rfl rfl rfl;have hr':RCs w (Mut X F) X ps us fps.flatten:=⟨by simpa using hl,fps,by simpa using hfl,rfl,fun j q v g hq hv hg=>hc (j+1) q v g (by simpa using hq) (by simpa using hv) (by simpa using hg)⟩
  simp only [List.flatten_cons] at hfn hd ⊢;have hnd2:=List.nodup_append.1 hfn;simp only [takeL] at ht;split at ht
  ·rename_i q i qs' is h1 h2;simp only [osi,Prod.mk.injEq] at ht;obtain ⟨rfl,rfl⟩:=ht;have hid2:=List.nodup_append.1 hid;obtain ⟨f1,k1,k2,k3,_,k4⟩:=h.takeP_ok hp0 h1 (hn q (by simp)) hnd2.1;obtain ⟨f2,m1,m2,m3,m4⟩:=h.takeL_ok hr' h2 (fun q hq=>hn q (by simp [hq])) hnd2.2.1 hid2.2.1 (fun j hj g hg hh=>hd j (by simp [hj]) g hg (by simp only [lma];exact .inr hh));have k5:∀ g∈f1,g∈f∨∃ j∈i,g∈Own X F j:=by
    intro g hg;rcases k4 with ⟨_,rfl⟩|⟨j,rfl,rfl⟩
    ·exact .inl hg
    ·exact .inr ⟨j,by simp,hg⟩
   refine ⟨f1++f2,fun M' X' hτ hM=>RCs.cons (k1 M' X' hτ hM) (m1 M' X' hτ hM),List.nodup_append.2 ⟨k2,m2,fun g hg g' hg' e => ?_⟩,fun j hj => ?_,fun g hg => ?_⟩
   ·subst e;rcases k5 g hg with a1|⟨j,hj,a1⟩<;>rcases m4 g hg' with b1|⟨j',hj',b1⟩
    ·exact hnd2.2.2 g a1 g b1 rfl
    ·exact hd j' (by simp [hj']) g b1 (by simp [a1])
    ·exact hd j (by simp [hj]) g a1 (by simp only [lma];exact .inr b1)
    ·obtain ⟨B,hB⟩:=k3 j hj;obtain ⟨B',hB'⟩:=m3 j' hj';refine h.dj j j' B B' hB hB' (fun e => ?_) g a1 b1;subst e;exact hid2.2.2 j hj j hj' rfl
   ·rcases lma.1 hj with hj|hj
    ·exact k3 j hj
    ·exact m3 j hj
   ·rcases lma.1 hg with hg|hg
    ·rcases k5 g hg with a1|⟨j,hj,a1⟩
     ·exact .inl (by simp [a1])
     ·exact .inr ⟨j,by simp [hj],a1⟩
    ·rcases m4 g hg with a1|⟨j,hj,a1⟩
     ·exact .inl (by simp only [lma];exact .inr a1)
     ·exact .inr ⟨j,by simp [hj],a1⟩
  ·cases ht
theorem SimW.takeR_ok (h:SimW G X F σ acts w) {x y:R1} {ids:List Nat} {u:Value} (hr:R1R w (Mut X F) X x u []) (ht:takeR σ x=some (y,ids)) (hn:∀ q∈y.cs,NoRef q) (hid:ids.Nodup) :
  ∃ f',(∀ (M':Nat→Prop) (X':Ctx),X'.τ=X.τ→(∀ g,g<w.heap.size→¬ Mut X F g→¬ M' g)→R1R w M' X' y u f')∧f'.Nodup∧(∀ i∈ids,∃ B,X.H i=.live B)∧∀ g∈f',∃ i∈ids,g∈Own X F i:=by
 cases x with
 | one p =>
  simp only [takeR] at ht;split at ht
  ·rename_i q i h1;simp only [osi,Prod.mk.injEq] at ht;obtain ⟨rfl,rfl⟩:=ht;obtain ⟨f1,k1,k2,k3,_,k4⟩:=h.takeP_ok hr h1 (hn q (by simp [R1.cs])) (by simp);refine ⟨f1,k1,k2,k3,fun g hg => ?_⟩;rcases k4 with ⟨_,rfl⟩|⟨j,rfl,rfl⟩
   ·cases hg
   ·exact ⟨j,by simp,hg⟩
  ·cases ht
 | agg l =>
  simp only [takeR] at ht;split at ht
  ·rename_i q i h1;simp only [osi,Prod.mk.injEq] at ht;obtain ⟨rfl,rfl⟩:=ht;obtain ⟨xs,rfl,hr⟩:=hr;obtain ⟨f1,k1,k2,k3,k4⟩:=h.takeL_ok hr h1 hn (by simp) hid (by simp);exact ⟨f1,fun M' X' hτ hM=>⟨xs,rfl,k1 M' X' hτ hM⟩,k2,k3,fun g hg=>(k4 g hg).elim (fun e=>by cases e) id⟩
  ·cases ht
end
inductive Rk where
 | t (n:Nat)
 | c (n:Nat) (k:Option Nat)
def cRes (P:Program):ResultVar→Option Rk
 | .tmp t=>some (.t t)
 | .cell a ty=>match P.underlying ty,P.info? ty with
  | some d,some i=>if descAgg d then some (.c a (some i.size)) else some (.c a none)
  | _,_=>none
def cRess (P:Program):List ResultVar→Option (List Rk)
 | []=>some []
 | x::r=>match cRes P x,cRess P r with
  | some y,some s=>some (y::s)
  | _,_=>none
def mkR:Option Nat→List PV→R1
 | none,l=>.one (l.headD .un)
 | some _,l=>.agg l
def resF (σ:St):List Rk→Option (List R1×List Nat)
 | []=>some ([],[])
 | .t n::r=>match σ.reg n with
  | .r x=>match takeR σ x,resF σ r with
   | some (y,i),some (ys,is)=>some (y::ys,i++is)
   | _,_=>none
  | _=>none
 | .c n k::r=>match σ.ev1 (.t n) with
  | .ptr id 1 0 0=>match σ.slot id with
   | .live ⟨_,_,_,[c]⟩=>if c.length=k.getD 1 then match takeL σ c,resF σ r with
    | some (qs,i),some (ys,is)=>some (mkR k qs::ys,(id::i)++is)
    | _,_=>none else none
   | _=>none
  | _=>none
def resOp (tmps:Array Value):ResultVar→Sem Value
 | .tmp t=>pure (tmps.getD t undef)
 | .cell a t=>do loadVar t (← asAddr (tmps.getD a undef))
def resRun (P:Program) (tmps:Array Value) (w:World) (r:ResultVar) (u:Value):Prop:=(resOp tmps r).run P w=.ok u w
section
variable {P:Program} {G:Fr} {X X':Ctx} {F:Nat→List Nat} {σ:St} {a:Act} {acts:List Act} {w w':World} {M M' N:Nat→Prop} {τ:Nat→Value}
theorem results_of {fn:Func} {rs:List ResultVar} {us:List Value} {tmps:Array Value} (h:fn.results=rs.toArray) (hr:All2 (resRun P tmps w) rs us):(results fn tmps).run P w=.ok (resV us) w:=by
 have key:∀ {rs:List ResultVar} {us:List Value},All2 (resRun P tmps w) rs us→(rs.mapM (resOp tmps)).run P w=.ok us w:=by
  intro rs us h;induction h with
  | nil=>rfl
  | cons h t ih =>
   rw [List.mapM_cons,Sem.run_bind];unfold resRun at h;rw [h];simp only [Result.andThen_ok];rw [Sem.run_bind,ih];rfl
 have e0:results fn tmps=(do let vs←fn.results.mapM (resOp tmps);pure (if h:vs.size=1 then vs[0] else .tuple vs)):=by
  unfold results;congr 2
 rw [e0,h,List.mapM_toArray,Sem.run_bind];have e:(List.toArray <$> rs.mapM (resOp tmps)).run P w=.ok us.toArray w:=by
  rw [map_eq_pure_bind,Sem.run_bind,key hr];rfl
 rw [e];simp only [Result.andThen_ok];cases us with
 | nil=>rfl
 | cons u us=>cases us<;>rfl
theorem SimW.resF_ok (h:SimW G X F σ (a::acts) w):∀ {rv:List ResultVar} {rs:List Rk} {ys:List R1} {ids:List Nat},cRess P rv=some rs→resF σ rs=some (ys,ids)→(∀ y∈ys,∀ q∈y.cs,NoRef q)→ids.Nodup →
  ∃ us rf,All2 (resRun P a.tmps w) rv us∧(∀ (N:Nat→Prop),(∀ g,g<w.heap.size→¬ Mut X F g→¬ N g)→ResR w N X.τ ys us rf)∧rf.flatten.Nodup∧(∀ i∈ids,∃ B,X.H i=.live B)∧∀ g∈rf.flatten,∃ i∈ids,g∈Own X F i
 | [],rs,ys,ids,hc,hr,hn,hid=>by
  simp [cRess] at hc;subst hc;simp [resF] at hr;obtain ⟨rfl,rfl⟩:=hr;exact ⟨[],[],.nil,fun _ _=>.nil,by simp,by simp,by simp⟩
 | v::rv,rs,ys,ids,hc,hr,hn,hid=>by
  simp only [cRess] at hc;split at hc
  case h_2=>cases hc
  rename_i y s h1 h2;simp only [osi] at hc;subst hc;have join:∀ {i is:List Nat} {y0:R1} {ys0:List R1} {u:Value} {f:List Nat},ids=i++is→ys=y0::ys0→resF σ s=some (ys0,is)→resRun P a.tmps w v u →
    (∀ (N:Nat→Prop),(∀ g,g<w.heap.size→¬ Mut X F g→¬ N g)→R1R w N (X0 X.τ N) y0 u f)→f.Nodup→(∀ j∈i,∃ B,X.H j=.live B)→(∀ g∈f,∃ j∈i,g∈Own X F j) →
    ∃ us rf,All2 (resRun P a.tmps w) (v::rv) us∧(∀ (N:Nat→Prop),(∀ g,g<w.heap.size→¬ Mut X F g→¬ N g)→ResR w N X.τ ys us rf)∧rf.flatten.Nodup∧(∀ i∈ids,∃ B,X.H i=.live B)∧∀ g∈rf.flatten,∃ i∈ids,g∈Own X F i:=by
   intro i is y0 ys0 u f e1 e2 hrs hrun hR hfn hl hg;subst e1 e2;have hid2:=List.nodup_append.1 hid;obtain ⟨us,rf,k1,k2,k3,k4,k5⟩:=h.resF_ok h2 hrs (fun y hy=>hn y (by simp [hy])) hid2.2.1;refine ⟨u::us,f::rf,.cons hrun k1,fun N hN=>.cons (hR N hN) (hn y0 (by simp)) (k2 N hN),?_,fun j hj => ?_,fun g hgg => ?_⟩
   ·rw [List.flatten_cons];refine List.nodup_append.2 ⟨hfn,k3,fun g hg1 g' hg2 e => ?_⟩;subst e;obtain ⟨j,hj,a1⟩:=hg g hg1;obtain ⟨j',hj',b1⟩:=k5 g hg2;obtain ⟨B,hB⟩:=hl j hj;obtain ⟨B',hB'⟩:=k4 j' hj';refine h.dj j j' B B' hB hB' (fun e => ?_) g a1 b1;subst e;exact hid2.2.2 j hj j hj' rfl
   ·rcases lma.1 hj with hj|hj
    ·exact hl j hj
    ·exact k4 j hj
   ·rw [List.flatten_cons] at hgg;rcases lma.1 hgg with hgg|hgg
    ·obtain ⟨j,hj,a1⟩:=hg g hgg;exact ⟨j,by simp [hj],a1⟩
    ·obtain ⟨j,hj,a1⟩:=k5 g hgg;exact ⟨j,by simp [hj],a1⟩
  cases v with
  | tmp t =>
   simp [cRes] at h1;subst h1;simp only [resF] at hr;split at hr
   ·rename_i x hx;split at hr
    ·rename_i y i ys0 is ht hrs;simp only [osi,Prod.mk.injEq] at hr;obtain ⟨rfl,rfl⟩:=hr;have hrx:=h.reg t;rw [hx] at hrx;obtain ⟨f,k1,k2,k3,k4⟩:=h.takeR_ok hrx ht (hn y (by simp)) (List.nodup_append.1 hid).1;exact join rfl rfl hrs (show resRun P a.tmps w (.tmp t) (a.tmps.getD t undef) from rfl) (fun N hN=>k1 N (X0 X.τ N) rfl hN) k2 k3 k4
    ·cases hr
   ·cases hr
  | cell ad ty =>
   simp only [cRes] at h1;split at h1
   case h_2=>cases h1
   rename_i d inf hd hi;have hy:∃ k,y=.c ad k∧((descAgg d=true∧k=some inf.size)∨(descAgg d=false∧k=none)):=by
    split at h1<;>rename_i hda<;>simp only [osi] at h1<;>subst h1
    ·exact ⟨_,rfl,.inl ⟨hda,rfl⟩⟩
    ·exact ⟨_,rfl,.inr ⟨by simpa using hda,rfl⟩⟩
   obtain ⟨k,rfl,hk⟩:=hy;simp only [resF] at hr;split at hr
   ·rename_i id hp;split at hr
    ·rename_i kd kk kids c hs;split at hr
     ·rename_i hlen;split at hr
      ·rename_i qs i ys0 is ht hrs;simp only [osi,Prod.mk.injEq] at hr;obtain ⟨rfl,rfl⟩:=hr;have hidL:X.H id=.live ⟨kd,kk,kids,[c]⟩:=by rw [h.hH];exact hs
       obtain ⟨_,z,hz,hv,_⟩:=h.at_ptr (x:=.tmp ad) (y:=.t ad) (by simp [ixOk]) hp hs rfl;have hb:=h.blk id _ hidL;obtain ⟨xs,hcs,hat⟩:=hb.cells z hz;have e0:(([c]:List (List PV))).flatten=c:=by simp
       rw [e0] at hcs;have hndO:=h.nd id _ hidL;have hidn:=List.nodup_cons.1 (List.nodup_append.1 hid).1;have hlive:∀ j∈i,∃ B,X.H j=.live B:=by
        have hh:∀ {ps qs:List PV} {l:List Nat},takeL σ ps=some (qs,l)→∀ j∈l,∃ B,X.H j=.live B:=by
         intro ps;induction ps with
         | nil=>intro qs l hl j hj;simp [takeL] at hl;obtain ⟨rfl,rfl⟩:=hl;cases hj
         | cons p ps ih =>
          intro qs l hl j hj;simp only [takeL] at hl;split at hl
          ·rename_i q i1 qs1 i2 t1 t2;simp only [osi,Prod.mk.injEq] at hl;obtain ⟨rfl,rfl⟩:=hl;rcases lma.1 hj with hj|hj
           ·unfold takeP at t1;split at t1
            ·split at t1
             ·rename_i B hB;split at t1
              ·simp only [osi,Prod.mk.injEq] at t1;obtain ⟨_,rfl⟩:=t1;simp at hj;subst hj;exact ⟨B,by rw [h.hH];exact hB⟩
              ·cases t1
             ·cases t1
            ·cases t1
            ·simp only [osi,Prod.mk.injEq] at t1;obtain ⟨_,rfl⟩:=t1;cases hj
           ·exact ih t2 j hj
          ·cases hl
        exact hh ht
       have hqn:∀ q∈qs,NoRef q:=by
        intro q hq;have hq2:=hn (mkR k qs) (by simp);cases k with
        | some m=>exact hq2 q hq
        | none =>
         have hql:qs.length=1:=by
          have hh:∀ {ps qs:List PV} {l:List Nat},takeL σ ps=some (qs,l)→qs.length=ps.length:=by
           intro ps;induction ps with
           | nil=>intro qs l hl;simp [takeL] at hl;obtain ⟨rfl,rfl⟩:=hl;rfl
           | cons p ps ih =>
            intro qs l hl;simp only [takeL] at hl;split at hl
            ·rename_i q i1 qs1 i2 t1 t2;simp only [osi,Prod.mk.injEq] at hl;obtain ⟨rfl,rfl⟩:=hl;simp [ih t2]
            ·cases hl
          rw [hh ht];simpa using hlen
         match qs,hql with
         | [q0],_=>simp at hq;subst hq;exact hq2 q (by simp [mkR,R1.cs])
       obtain ⟨f,k1,k2,k3,k4⟩:=h.takeL_ok hcs ht hqn (List.nodup_append.1 hndO).2.1 hidn.2 (fun j hj g hg hg'=>by
        obtain ⟨B,hB⟩:=hlive j hj;exact h.dj j id B _ hB hidL (fun e=>hidn.1 (e▸hj)) g hg (lma.2 (.inr hg')))
       have hxl:xs.length=k.getD 1:=by rw [← hcs.1];exact hlen
       have hrun:∀ u,(match k with|none=>xs=[u]|some _=>u=.agg xs.toArray)→resRun P a.tmps w (.cell ad ty) u:=by
        intro u hu;have hv':a.tmps.getD ad undef=.pointer (some (baseOf z)):=by
         have:a.eval (.tmp ad)=.pointer (some ((baseOf z).add 0)):=by simpa using hv
         rw [show (baseOf z).add 0=baseOf z by rw [add_baseOf];rfl] at this;exact this
        show Sem.run P (do loadVar ty (← asAddr (a.tmps.getD ad undef))) w=.ok u w;rw [hv'];rcases hk with ⟨hda,rfl⟩|⟨hda,rfl⟩
        ·simp only at hu;subst hu;have:=run_loadCells_list (P:=P) w (baseOf z) xs fun j u hju=>(hat j u hju).1
         rw [show xs.length=inf.size from hxl] at this;simp [asAddr,loadVar,run_isAgg hd,hda,sizeOf,typeInfo,hi,this]
        ·simp only at hu;have hc0:=(hat 0 u (by rw [hu];rfl)).1;rw [show (baseOf z).add 0=baseOf z by rw [add_baseOf];rfl] at hc0;simp [asAddr,loadVar,run_isAgg hd,hda,hc0]
       have hgo:∀ u,(match k with|none=>xs=[u]|some _=>u=.agg xs.toArray)→(∀ (N:Nat→Prop),(∀ g,g<w.heap.size→¬ Mut X F g→¬ N g)→R1R w N (X0 X.τ N) (mkR k qs) u f):=by
        intro u hu N hN;have hr0:=k1 N (X0 X.τ N) rfl hN;cases k with
        | some m=>exact ⟨xs,hu,hr0⟩
        | none =>
         simp only at hu;subst hu;obtain ⟨hl,fps,hfl,rfl,hcc⟩:=hr0
         match qs,fps,hl,hfl with
         | [q],[f0],_,_ =>
          have:=hcc 0 q u f0 rfl rfl rfl;show RC w N (X0 X.τ N) q u ([f0].flatten);simpa using this
       obtain ⟨u,hu⟩:∃ u,(match k with|none=>xs=[u]|some _=>u=.agg xs.toArray):=by
        cases k with
        | some m=>exact ⟨_,rfl⟩
        | none=>match xs,hxl with|[u],_=>exact ⟨u,rfl⟩
       refine join rfl rfl hrs (hrun u hu) (hgo u hu) k2 (fun j hj => ?_) fun g hg => ?_
       ·rcases List.mem_cons.1 hj with rfl|hj
        ·exact ⟨_,hidL⟩
        ·exact hlive j hj
       ·rcases k4 g hg with k5|⟨j,hj,k5⟩
        ·exact ⟨id,by simp,lma.2 (.inr k5)⟩
        ·exact ⟨j,by simp [hj],k5⟩
      ·cases hr
     ·cases hr
    ·cases hr
   ·cases hr
end
def winsK (σ:St):Nat→List Arg→Prop
 | _,[]=>True
 | i,.w c c'::r=>(∃ B,σ.slot i=.live B∧B.l=[c']∧∀ p∈c',NoRef p)∧winsK σ (i+1) r
 | i,.v _::r=>winsK σ i r
 | i,.o _::r=>winsK σ i r
def doneK (rs:List Rk) (args:List Arg) (res:List R1) (σ:St):Prop :=
 ∃ ids,resF σ rs=some (res,ids)∧(∀ y∈res,∀ q∈y.cs,NoRef q)∧ids.Nodup∧(∀ i∈ids,(winBlks args).length≤i)∧winsK σ 0 args
section
variable {P:Program} {G:Fr} {X X':Ctx} {F:Nat→List Nat} {σ:St} {a:Act} {acts:List Act} {w w':World} {M M' N:Nat→Prop} {τ:Nat→Value}
theorem SimW.wins_out (h:SimW G X F σ acts w) (N':Nat→Prop) (hN:∀ g,g<w.heap.size→¬ Mut X F g→¬ N' g):∀ {args:List Arg} {ws:List (Nat×Nat×Nat)} (i:Nat),winsK σ i args→(winBlks args).length=ws.length→(∀ (j:Nat) (x:Nat×Nat×Nat),ws[j]? = some x→G.wins[i+j]? = some x) →
  (∀ (j:Nat) (s:Slot) (x:Nat×Nat×Nat),(winBlks args)[j]? = some s→ws[j]? = some x→∃ c,s=.live ⟨2,c,[],[]⟩∨∃ cs,s=.live ⟨2,c,[],cs⟩∧x.2.2=c) →
  WinsR w N' X.τ args ws ((List.range' i ws.length).map F)∧∀ j,j<ws.length→∃ B,X.H (i+j)=.live B
 | [],ws,i,hk,hl,hw,hs=>by
  have:ws=[]:=List.eq_nil_of_length_eq_zero hl.symm;subst this;exact ⟨.nil,by simp⟩
 | .v x::r,ws,i,hk,hl,hw,hs=>by
  obtain ⟨k1,k2⟩:=h.wins_out N' hN i (args:=r) hk hl hw hs;exact ⟨.v k1,k2⟩
 | .o x::r,ws,i,hk,hl,hw,hs=>by
  obtain ⟨k1,k2⟩:=h.wins_out N' hN i (args:=r) hk hl hw hs;exact ⟨.o k1,k2⟩
 | .w c c'::r,ws,i,hk,hl,hw,hs=>by
  obtain ⟨⟨B,hB,hBl,hn⟩,hk⟩:=hk
  match ws,hl with
  | x::ws,hl =>
   simp only [winBlks,List.length_cons,Nat.add_right_cancel_iff] at hl;obtain ⟨k1,k2⟩:=h.wins_out N' hN (i+1) (args:=r) hk hl (fun j y hy=>by
    have:=hw (j+1) y (by simpa using hy);rwa [show i+(j+1)=i+1+j by omega] at this)
    (fun j s y h1 h2=>hs (j+1) s y (by simpa [winBlks] using h1) (by simpa using h2))
   have hid:X.H i=.live B:=by rw [h.hH];exact hB
   obtain ⟨B',hB',e1,e2,e3⟩:=h.win i x (by have:=hw 0 x rfl;simpa using this);obtain rfl:B=B':=by rw [hid] at hB';injection hB'
   have hb:=h.blk i B hid;obtain ⟨xs,hcs,hat⟩:=hb.cells _ e2;rw [hBl] at hcs;have e0:(([c']:List (List PV))).flatten=c':=by simp
   rw [e0] at hcs;have hck:c'.length=B.k:=hb.1 c' (by simp [hBl]);have hxc:x.2.2=c.length:=by
    obtain ⟨c0,hc0⟩:=hs 0 _ x rfl rfl;rcases hc0 with h1|⟨cs,h1,h2⟩
    ·injection h1 with h1;injection h1 with _ _ _ h1;cases h1
    ·injection h1 with h1;injection h1 with _ h1 _ _;rw [h2,←h1]
   refine ⟨?_,fun j hj => ?_⟩
   ·rw [List.length_cons,List.range'_succ,List.map_cons];exact .w hat (hcs.map_rc fun p u f hp _ hr=>hr.move (hn p hp) (fun _ _=>rfl) (fun _ _ _=>rfl) hN rfl) hn (by omega) hxc k1
   ·cases j with
    | zero=>exact ⟨B,hid⟩
    | succ j =>
     obtain ⟨B2,hB2⟩:=k2 j (by simpa using hj);exact ⟨B2,by rw [← hB2];congr 1;omega⟩
theorem SimW.flat_nodup (h:SimW G X F σ acts w):∀ (l:List Nat),l.Nodup→(∀ i∈l,∃ B,X.H i=.live B)→(l.map F).flatten.Nodup
 | [],_,_=>by simp
 | i::l,hn,hl=>by
  obtain ⟨h1,h2⟩:=List.nodup_cons.1 hn;obtain ⟨B,hB⟩:=hl i (by simp);simp only [List.map_cons,List.flatten_cons];refine List.nodup_append.2 ⟨(List.nodup_append.1 (h.nd i B hB)).2.1,h.flat_nodup l h2 (fun j hj=>hl j (by simp [hj])),fun g hg g' hg' e => ?_⟩;subst e;obtain ⟨f,hf,hgf⟩:=List.mem_flatten.1 hg';obtain ⟨j,hj,rfl⟩:=List.mem_map.1 hf;obtain ⟨B',hB'⟩:=hl j (by simp [hj]);exact h.dj i j B B' hB hB' (fun e=>h1 (e▸hj)) g (lma.2 (.inr hg)) (lma.2 (.inr hgf))
theorem leave {args:List Arg} {us:List Value} {fo fw:List (List Nat)} {ws:List (Nat×Nat×Nat)} {N0:Nat→Prop} (h:ArgsR w N0 τ args us fo fw ws) (hnd:(fo.flatten++fw.flatten++ws.map (·.1)).Nodup)
  (hs:Sim (frOf w τ N (fo.flatten++fw.flatten) ws) σ [a] w') {fn:Func} {rv:List ResultVar} {rs:List Rk} (hf:fn.results=rv.toArray) (hrv:cRess P rv=some rs) {res:List R1} (hd:doneK rs args res σ) :
  a.defers=[]∧∃ v,(results fn a.tmps).run P w'=.ok v w'∧ConPost w w' τ N args res (fo.flatten++fw.flatten) ws v:=by
 obtain ⟨X,F,hs⟩:=hs;obtain ⟨ids,hr,hn,hid,hge,hwk⟩:=hd;obtain ⟨h1,h2,h3⟩:=h.len;have hdef:a.defers=[]:=by cases hs.envs with|cons e _=>exact e.defers
 obtain ⟨vs,rf,k1,k2,k3,k4,k5⟩:=hs.resF_ok hrv hr hn hid;refine ⟨hdef,resV vs,results_of hf k1,hs.kept,?_⟩;have hτ:X.τ=τ:=hs.hτ
 let fw':=(List.range' 0 ws.length).map F
 have hwo:=fun (N':Nat→Prop) (hN':∀ g,g<w'.heap.size→¬ Mut X F g→¬ N' g)=>hs.wins_out N' hN' (args:=args) (ws:=ws) 0 hwk h2 (fun j x hx=>by rw [Nat.zero_add];exact hx)
  (fun j s x hj hx=>by
   have hlt:=(List.getElem?_eq_some_iff.1 hx).1;obtain ⟨c,vs,e1,e2,_⟩:=h.win j s x _ hj hx (List.getElem?_eq_getElem (show j<fw.length by omega));exact ⟨c.length,.inr ⟨_,e1,e2⟩⟩)
 have hwl:∀ j,j<ws.length→∃ B,X.H j=.live B:=fun j hj=>by
  have:=(hwo (fun _=>False) (fun _ _ _ k=>k)).2 j hj;simpa using this
 have hfwm:∀ g∈fw'.flatten,∃ j,j<ws.length∧g∈F j:=by
  intro g hg;obtain ⟨f,hf,hgf⟩:=List.mem_flatten.1 hg;obtain ⟨j,hj,rfl⟩:=List.mem_map.1 hf;exact ⟨j,by simp [List.mem_range'] at hj;omega,hgf⟩
 have hM1:∀ g∈rf.flatten++fw'.flatten,Mut1 X F g:=by
  intro g hg;rcases lma.1 hg with hg|hg
  ·obtain ⟨i,hi,hgi⟩:=k5 g hg;obtain ⟨B,hB⟩:=k4 i hi;exact ⟨i,B,hB,hgi⟩
  ·obtain ⟨j,hj,hgj⟩:=hfwm g hg;obtain ⟨B,hB⟩:=hwl j hj;exact ⟨j,B,hB,lma.2 (.inr hgj)⟩
 have hN':∀ g,g<w'.heap.size→¬ Mut X F g→¬ (N g∨g∈rf.flatten++fw'.flatten):=by
  rintro g _ hg (hh|hh)
  ·exact hg (.inl (hs.hN g hh))
  ·exact hg (.inr (hM1 g hh))
 have hwA:∀ (i:Nat) (x:Nat×Nat×Nat),ws[i]? = some x→i<ws.length∧x.1∈Own X F i∧∀ g∈F i,g≠x.1:=by
  intro i x hx;obtain ⟨B,hB,_,hA,_⟩:=hs.win i x hx;refine ⟨(List.getElem?_eq_some_iff.1 hx).1,by simp [Own,hA],fun g hg e => ?_⟩;have:=hs.nd i B hB;simp only [Own,hA,Option.map_some,Option.toList_some,List.cons_append,List.nil_append] at this;exact (List.nodup_cons.1 this).1 (e▸hg)
 have hout:∀ g∈rf.flatten++fw'.flatten,∀ x∈ws,g≠x.1:=by
  rintro g hg x hx rfl;obtain ⟨i,hi⟩:=List.getElem?_of_mem hx;obtain ⟨hil,hio,hif⟩:=hwA i x hi;obtain ⟨B,hB⟩:=hwl i hil;rcases lma.1 hg with hg|hg
  ·obtain ⟨j,hj,hgj⟩:=k5 _ hg;obtain ⟨B',hB'⟩:=k4 j hj;have:=hge j hj;exact hs.dj j i B' B hB' hB (by omega) _ hgj hio
  ·obtain ⟨j,hj,hgj⟩:=hfwm _ hg;by_cases e:j=i
   ·subst e;exact hif _ hgj rfl
   ·obtain ⟨B',hB'⟩:=hwl j hj;exact hs.dj j i B' B hB' hB e _ (lma.2 (.inr hgj)) hio
 refine ⟨vs,rf,fw',rfl,by rw [← hτ];exact k2 _ hN',by rw [← hτ];exact (hwo _ hN').1,?_,fun g hg=>⟨?_,hs.lt g (hM1 g hg)⟩⟩
 ·refine List.nodup_append.2 ⟨List.nodup_append.2 ⟨k3,hs.flat_nodup _ (List.nodup_range') (fun i hi=>hwl i (by simp [List.mem_range'] at hi;omega)),fun g hg g' hg' e => ?_⟩,(List.nodup_append.1 hnd).2.1,fun g hg g' hg' e => ?_⟩
  ·subst e;obtain ⟨i,hi,hgi⟩:=k5 g hg;obtain ⟨B,hB⟩:=k4 i hi;obtain ⟨j,hj,hgj⟩:=hfwm g hg';obtain ⟨B',hB'⟩:=hwl j hj;have:=hge i hi;exact hs.dj i j B B' hB hB' (by omega) g hgi (lma.2 (.inr hgj))
  ·obtain ⟨x,hx,rfl⟩:=List.mem_map.1 hg';exact hout g hg x hx e
 ·rcases hs.src g (hM1 g hg) with k|⟨x,hx,k⟩|k
  ·exact .inl k
  ·exact (hout g hg x hx k.symm).elim
  ·exact .inr k
def St.le (σ:St) (Q:Exit→St→Prop):Prop:=Q .normal σ
def T (P:Program) (G:Fr) (acts:List Act) (c:Code) (σ:St) (Q:Exit→St→Prop):Prop :=
 ∀ a w,Sim G σ (a::acts) w→c.wp P (fun e a w=>∃ σ',Q e σ'∧Sim G σ' (a::acts) w) a w
theorem con_of {f : FuncId} {fn : Func} {c : Code} {rv : List ResultVar} {rs : List Rk} {args : List Arg} {res : List R1} (hf : P.funcs[f]? = some fn) (hb : fn.body = some c) (hr : fn.results = rv.toArray) (hrv : cRess P rv = some rs) (hn : args.length ≤ fn.ntmps) (hname : (fn.name == "runtime.NumGoroutine") = false)
  (h:∀ G,T P G [] c (entry fn.ntmps args) fun e σ=>(e=.normal∨e=.ret)∧doneK rs args res σ):Con P f args res:=by
 refine ⟨⟨fn,hf,hname,by rw [hb];rfl⟩,?_⟩;intro w τ N us fo fw ws ha hnd hws hfp hlt;have hsim:=entry_sim ha hnd (fun g hg=>(lma.1 hg).elim (fun k=>.inr k) fun k=>.inl (hws g k)) (N1:=N) (fun g hg=>.inl hg) hfp hlt fn.ntmps (by have:=ha.len.1;omega);refine calls_of_wp hf hb (wp_mono (h _ _ _ hsim) fun e a w' hq => ?_);obtain ⟨σ',⟨he,hd⟩,hs⟩:=hq;obtain ⟨h1,v,h2,h3⟩:=leave ha hnd hs hr hrv hd;rcases he with rfl|rfl
 ·exact ⟨h1,v,h2,v,rfl,h3⟩
 ·exact ⟨h1,v,h2,v,rfl,h3⟩
end
def vc (σ:St):PV→Option (PV×List Nat)
 | .ref id lo len full=>match σ.slot id with
  | .live B=>if B.l.length=full then some (.vs false B.k ((B.l.drop lo).take len),[id]) else none
  | _=>none
 | .ptr .. => none
 | p=>some (p,[])
def vcL (σ:St):List PV→Option (List PV×List Nat)
 | []=>some ([],[])
 | p::r=>match vc σ p,vcL σ r with
  | some (q,i),some (qs,is)=>some (q::qs,i++is)
  | _,_=>none
def vwP (σ:St) (p x:PV) (K:List Nat→Prop):Prop :=
 match p with
 | .ptr id full e j=>match σ.slot id with
  | .live B=>B.l.length=full∧∃ c,B.l[e]? = some c∧match vcL σ c with
   | some (c',l)=>x=.rp c' j∧K (id::l)
   | none=>False
  | _=>False
 | .vs true _ []=>(∃ k,x=.vs false k [])∧K []
 | .vs true _ (_::_)=>False
 | p=>match vc σ p with
  | some (x',l)=>x=x'∧K l
  | none=>False
def vwL (σ:St):List PV→List PV→(List Nat→Prop)→Prop
 | [],[],K=>K []
 | p::ps,x::xs,K=>vwP σ p x fun l=>vwL σ ps xs fun l'=>K (l++l')
 | _,_,_=>False
def vc1 (σ:St) (p:PV):Option (PV×List Nat) :=
 match p with
 | .ptr id full e j=>match σ.slot id with
  | .live B=>if B.l.length=full then match B.l[e]? with
   | some c=>match vcL σ c with
    | some (c',l)=>some (.rp c' j,id::l)
    | none=>none
   | none=>none
   else none
  | _=>none
 | p=>vc σ p
def vcL1 (σ:St):List PV→Option (List PV×List Nat)
 | []=>some ([],[])
 | p::r=>match vc1 σ p,vcL1 σ r with
  | some (q,i),some (qs,is)=>some (q::qs,i++is)
  | _,_=>none
def vwQ (σ:St) (p x:PV) (K:List Nat→Prop):Prop :=
 match p with
 | .ptr id full e j=>match σ.slot id with
  | .live B=>B.l.length=full∧∃ c,B.l[e]? = some c∧match vcL1 σ c with
   | some (c',l)=>x=.rp c' j∧K (id::l)
   | none=>False
  | _=>False
 | p=>vwP σ p x K
def vwQL (σ:St):List PV→List PV→(List Nat→Prop)→Prop
 | [],[],K=>K []
 | p::ps,x::xs,K=>vwQ σ p x fun l=>vwQL σ ps xs fun l'=>K (l++l')
 | _,_,_=>False
def vwN (σ:St) (p x:PV) (K:List Nat→Prop):Prop:=∃ f ps xs,p=.fn f ps∧x=.fn f xs∧vwQL σ ps xs K
def vwR (σ:St):R1→R1→(List Nat→Prop)→Prop
 | .one p,.one x,K=>vwP σ p x K∨vwN σ p x K
 | .agg l,.agg m,K=>vwL σ l m K
 | _,_,_=>False
section
variable {P:Program} {G:Fr} {X X':Ctx} {F:Nat→List Nat} {σ:St} {a:Act} {acts:List Act} {w w':World} {M M' N:Nat→Prop} {τ:Nat→Value}
theorem addr_assoc (z:Nat×Nat) (i j:Nat):((baseOf z).add i).add j=(baseOf z).add (i+j):=addr_add_add _ _ _
theorem block_add (z:Nat×Nat) (i:Nat):((baseOf z).add i).block=z.1:=by rw [add_baseOf]
theorem SimW.vc_ok (h:SimW G X F σ acts w) {p p':PV} {l:List Nat} {u:Value} {f:List Nat} (hr:RC w (Mut X F) X p u f) (hv:vc σ p=some (p',l)) (hn:NoRef p') (hN:∀ g,g<w.heap.size→¬ Mut X F g→¬ N g) (hf:∀ g∈f,¬ N g) (hl:∀ i∈l,∀ g∈Own X F i,¬ N g) (hτ:X.τ=τ) :
  RC w N (X0 τ N) p'.sh u []:=by
 unfold vc at hv;split at hv
 ·rename_i id lo len full;split at hv
  ·rename_i B hB;split at hv
   ·rename_i hfull;simp only [osi,Prod.mk.injEq] at hv;obtain ⟨rfl,rfl⟩:=hv;have hid:X.H id=.live B:=by rw [h.hH];exact hB
    obtain ⟨h0,_,hlive⟩:=hr.ref_inv;obtain ⟨_,h3⟩:=hlive B hid;obtain ⟨hkd,hle,A,c,hv,hlc,hA0,hA1⟩:=h3 hfull;obtain ⟨hk,xs,hcs,hrow⟩:=h.blk id B hid;obtain ⟨e,hr'⟩:∃ e,w.ownsRow 0 e B.k (.slice ((X.A id).map baseOf) B.l.length (X.C id)) B.l.length xs:=by
     rcases hrow with ⟨_,k⟩|⟨k,_⟩
     ·exact k
     ·exact (k hkd).elim
    have hO:∀ g∈Own X F id,¬ N g:=hl id (by simp);rw [noRef_vs] at hn;have hsub:∀ c∈(B.l.drop lo).take len,c.length=B.k:=fun c hc=>hk c (List.mem_of_mem_drop (List.mem_of_mem_take hc))
    have hfl:((B.l.drop lo).take len).flatten=(B.l.flatten.drop (lo*B.k)).take (len*B.k):=by
     rw [flatten_take _ (fun c hc=>hk c (List.mem_of_mem_drop hc)),flatten_drop _ hk]
    have hsl:((B.l.drop lo).take len).length=len:=by simp;omega
    have hnn:∀ p∈((B.l.drop lo).take len).flatten,NoRef p:=by
     intro p hp;obtain ⟨c,hc,hpc⟩:=List.mem_flatten.1 hp;exact hn c hc p hpc
    rw [hv];show RC w N (X0 τ N) (.vs false B.k ((B.l.drop lo).take len)) (.slice A len c) [];rw [show (Value.slice A len c)=.slice A ((B.l.drop lo).take len).length c by rw [hsl]];obtain ⟨hll,fps,hfps,hFid,hrc⟩:=hcs;refine .ro (xs:=(xs.drop (lo*B.k)).take (len*B.k)) (by rw [hsl];exact hlc) hsub ?_ (fun j u hu => ?_) fun j p u hp hu => ?_
    ·rw [hfl];simp [hll]
    ·rw [List.getElem?_take] at hu;split at hu
     ·rename_i hj;rw [List.getElem?_drop] at hu;have hlen:0<len:=by
       rcases Nat.eq_zero_or_pos len with h0|h0
       ·subst h0;simp at hj
       ·exact h0
      cases hAA:X.A id with
      | none=>have:=row_nil_of_none hr' hAA;omega
      | some z =>
       refine ⟨(baseOf z).add (lo*B.k),by rw [hA1 hlen,hAA];rfl,by rw [block_add];exact hO z.1 (by simp [Own,hAA]),?_⟩;rw [addr_assoc];exact ((cellsAt_of_row hr' hAA).2 _ u hu).1
     ·cases hu
    ·rw [hfl] at hp;have hpn:NoRef p:=hnn p (by rw [hfl];exact List.mem_of_getElem? hp);rw [List.getElem?_take] at hp hu;split at hp
     ·rename_i hj;rw [if_pos hj,List.getElem?_drop] at hu;rw [List.getElem?_drop] at hp;have hq:lo*B.k+j<xs.length:=(List.getElem?_eq_some_iff.1 hu).1;have hr2:=hrc _ p u _ hp hu (List.getElem?_eq_getElem (show lo*B.k+j<fps.length by omega));exact hr2.toRo hpn (fun g hg=>hO g (by simp only [Own,lma];right;rw [hFid];exact List.mem_flatten.2 ⟨_,List.getElem_mem _,hg⟩)) hN hτ.symm
     ·cases hp
   ·cases hv
  ·cases hv
 ·cases hv
 ·simp only [osi,Prod.mk.injEq] at hv;obtain ⟨rfl,rfl⟩:=hv;exact hr.toRo hn hf hN hτ.symm
theorem SimW.vcL_ok (h:SimW G X F σ acts w):∀ {ps qs:List PV} {l:List Nat} {us:List Value} {f:List Nat},RCs w (Mut X F) X ps us f→vcL σ ps=some (qs,l)→(∀ q∈qs,NoRef q)→(∀ g,g<w.heap.size→¬ Mut X F g→¬ N g)→(∀ g∈f,¬ N g)→(∀ i∈l,∀ g∈Own X F i,¬ N g)→X.τ=τ →
  RCs w N (X0 τ N) (qs.map PV.sh) us []
 | [],qs,l,us,f,hr,hv,hn,hN,hf,hl,hτ=>by
  simp [vcL] at hv;obtain ⟨rfl,rfl⟩:=hv;have:us=[]:=List.eq_nil_of_length_eq_zero hr.1.symm;subst this;exact RCs.nil
 | p::ps,qs,l,us,f,hr,hv,hn,hN,hf,hl,hτ=>by
  obtain ⟨hl',fps,hfl,rfl,hc⟩:=hr;cases us with
  | nil=>simp at hl'
  | cons u us =>
  cases fps with
  | nil=>simp at hfl
  | cons f fps =>
  have hp0:=hc 0 p u f rfl rfl rfl;have hr':RCs w (Mut X F) X ps us fps.flatten:=⟨by simpa using hl',fps,by simpa using hfl,rfl,fun j q v g hq hv hg=>hc (j+1) q v g (by simpa using hq) (by simpa using hv) (by simpa using hg)⟩
  simp only [vcL] at hv;split at hv
  ·rename_i q i qs' is h1 h2;simp only [osi,Prod.mk.injEq] at hv;obtain ⟨rfl,rfl⟩:=hv;have k1:=h.vc_ok hp0 h1 (hn q (by simp)) hN (fun g hg=>hf g (by simp [hg])) (fun j hj=>hl j (by simp [hj])) hτ;have k2:=h.vcL_ok hr' h2 (fun q hq=>hn q (by simp [hq])) hN (fun g hg=>hf g (by rw [List.flatten_cons];exact lma.2 (.inr hg))) (fun j hj=>hl j (by simp [hj])) hτ;have:=RCs.cons k1 k2;simpa using this
  ·cases hv
theorem SimW.vwP_ok (h:SimW G X F σ acts w) {p x:PV} {u:Value} {K:List Nat→Prop} (hr:RC w (Mut X F) X p u []) (hv:vwP σ p x K) (hn:NoRef x) (hτ:X.τ=τ) :
  ∃ l,K l∧∀ N:Nat→Prop,(∀ g,g<w.heap.size→¬ Mut X F g→¬ N g)→(∀ i∈l,∀ g∈Own X F i,¬ N g)→RC w N (X0 τ N) x u []:=by
 unfold vwP at hv;split at hv
 ·rename_i id full e j;split at hv
  ·rename_i B hB;obtain ⟨hfull,c,hc,hv⟩:=hv;split at hv
   ·rename_i c' l hvc;obtain ⟨rfl,hK⟩:=hv;refine ⟨_,hK,fun N hN hl => ?_⟩;have hid:X.H id=.live B:=by rw [h.hH];exact hB
    obtain ⟨ad,_,h0,hlive⟩:=hr.ptr_inv;obtain ⟨_,h3⟩:=hlive B hid;obtain ⟨he,z,hz,hvv⟩:=h3 hfull;have hb:=h.blk id B hid;obtain ⟨xs,hcs,hat⟩:=hb.cells z hz;have hck:c.length=B.k:=hb.1 c (List.mem_of_getElem? hc);have hO:∀ g∈Own X F id,¬ N g:=hl id (by simp);rw [noRef_rp] at hn;obtain ⟨f1,f2,f3,hF,_,hc2,_⟩:=hcs.parts (e*B.k) B.k;have hseg:(B.l.flatten.drop (e*B.k)).take B.k=c:=by
     have:=flatten_seg B.l hb.1 e 0 B.k c hc (by omega);simp only [Nat.add_zero,List.drop_zero] at this;rw [this,←hck,List.take_length]
    rw [hseg] at hc2;have hrr:=h.vcL_ok (τ:=τ) hc2 hvc hn hN (fun g hg=>hO g (by simp [Own,hF,hg])) (fun i hi=>hl i (by simp [hi])) hτ;rw [hvv,←addr_assoc];refine .rp (xs:=(xs.drop (e*B.k)).take B.k) (by have:=hrr.1;rw [List.length_map] at this;exact this) (fun i u hu=>⟨by rw [block_add];exact hO z.1 (by simp [Own,hz]),?_⟩) fun i p u hp hu => ?_
    ·rw [List.getElem?_take] at hu;split at hu
     ·rw [List.getElem?_drop] at hu;rw [addr_assoc];exact (hat _ u hu).1
     ·cases hu
    ·exact hrr.get_nofp i p.sh u (by rw [List.getElem?_map,hp];rfl) hu
   ·exact hv.elim
  ·exact hv.elim
 ·obtain ⟨⟨k,rfl⟩,hK⟩:=hv;refine ⟨[],hK,fun N hN _ => ?_⟩;obtain ⟨A,c,hv,hc⟩:=hr.vs_slice;rw [hv];exact RC.ro (l:=[]) (xs:=[]) (by simp) (by simp) rfl (by simp) (by simp)
 ·exact hv.elim
 ·rename_i hne1 hne2 hne3;split at hv
  ·rename_i x' l hvc;obtain ⟨rfl,hK⟩:=hv;refine ⟨l,hK,fun N hN hl => ?_⟩;have:=h.vc_ok hr hvc hn hN (by simp) hl hτ;have hsh:x.sh=x:=by
    cases x with
    | vs o k l0 =>
     cases o
     ·rfl
     ·exfalso;unfold vc at hvc;split at hvc
      ·split at hvc
       ·split at hvc<;>simp at hvc
       ·cases hvc
      ·cases hvc
      ·simp only [osi,Prod.mk.injEq] at hvc;obtain ⟨rfl,_⟩:=hvc;cases l0 with
       | nil=>exact hne2 _ rfl
       | cons c l0=>exact hne3 _ _ _ rfl
    | _=>rfl
   rw [hsh] at this;exact this
  ·exact hv.elim
theorem SimW.vwL_ok (h:SimW G X F σ acts w):∀ {ps xs:List PV} {us:List Value} {K:List Nat→Prop},RCs w (Mut X F) X ps us []→vwL σ ps xs K→(∀ x∈xs,NoRef x)→X.τ=τ →
  ∃ l,K l∧∀ N:Nat→Prop,(∀ g,g<w.heap.size→¬ Mut X F g→¬ N g)→(∀ i∈l,∀ g∈Own X F i,¬ N g)→RCs w N (X0 τ N) xs us []
 | [],[],us,K,hr,hv,hn,hτ=>by
  have:us=[]:=List.eq_nil_of_length_eq_zero hr.1.symm;subst this;exact ⟨[],hv,fun _ _ _=>RCs.nil⟩
 | [],_::_,us,K,hr,hv,hn,hτ=>hv.elim
 | _::_,[],us,K,hr,hv,hn,hτ=>hv.elim
 | p::ps,x::xs,us,K,hr,hv,hn,hτ=>by
  cases us with
  | nil=>have:=hr.1;simp at this
  | cons u us =>
  have hp0:=hr.get_nofp 0 p u rfl rfl;have hr':RCs w (Mut X F) X ps us []:=.of_nofp (by have:=hr.1;simpa using this) fun j q v hq hv=>hr.get_nofp (j+1) q v (by simpa using hq) (by simpa using hv)
  obtain ⟨l,hK,k1⟩:=h.vwP_ok hp0 hv (hn x (by simp)) hτ;obtain ⟨l',hK',k2⟩:=h.vwL_ok hr' hK (fun x hx=>hn x (by simp [hx])) hτ;refine ⟨l++l',hK',fun N hN hl => ?_⟩;simpa using RCs.cons (k1 N hN fun i hi=>hl i (by simp [hi])) (k2 N hN fun i hi=>hl i (by simp [hi]))
theorem SimW.vc1_ok (h:SimW G X F σ acts w) {p p':PV} {l:List Nat} {u:Value} {f:List Nat} (hr:RC w (Mut X F) X p u f) (hv:vc1 σ p=some (p',l)) (hn:NoRef p') (hN:∀ g,g<w.heap.size→¬ Mut X F g→¬ N g) (hf:∀ g∈f,¬ N g) (hl:∀ i∈l,∀ g∈Own X F i,¬ N g) (hτ:X.τ=τ) :
  RC w N (X0 τ N) p'.sh u []:=by
 unfold vc1 at hv;split at hv
 ·rename_i id full e j;split at hv
  ·rename_i B hB;split at hv
   ·rename_i hfull;split at hv
    ·rename_i c hc;split at hv
     ·rename_i c' l' hvc;simp only [osi,Prod.mk.injEq] at hv;obtain ⟨rfl,rfl⟩:=hv;have hf0:f=[]:=hr.fp_nil (by simp);subst hf0;obtain ⟨l2,e2,k2⟩:=h.vwP_ok (x:=.rp c' j) (K:=fun l2=>l2=id::l') hr (by
       simp only [vwP,hB];refine ⟨hfull,c,hc,?_⟩;simp only [hvc];exact ⟨trivial,trivial⟩) hn hτ
      subst e2;exact k2 N hN hl
     ·cases hv
    ·cases hv
   ·cases hv
  ·cases hv
 ·exact h.vc_ok hr hv hn hN hf hl hτ
theorem SimW.vcL1_ok (h:SimW G X F σ acts w):∀ {ps qs:List PV} {l:List Nat} {us:List Value} {f:List Nat},RCs w (Mut X F) X ps us f→vcL1 σ ps=some (qs,l)→(∀ q∈qs,NoRef q)→(∀ g,g<w.heap.size→¬ Mut X F g→¬ N g)→(∀ g∈f,¬ N g)→(∀ i∈l,∀ g∈Own X F i,¬ N g)→X.τ=τ →
  RCs w N (X0 τ N) (qs.map PV.sh) us []
 | [],qs,l,us,f,hr,hv,hn,hN,hf,hl,hτ=>by
  simp [vcL1] at hv;obtain ⟨rfl,rfl⟩:=hv;have:us=[]:=List.eq_nil_of_length_eq_zero hr.1.symm;subst this;exact RCs.nil
 | p::ps,qs,l,us,f,hr,hv,hn,hN,hf,hl,hτ=>by
  obtain ⟨hl',fps,hfl,rfl,hc⟩:=hr;cases us with
  | nil=>simp at hl'
  | cons u us =>
  cases fps with
  | nil=>simp at hfl
  | cons f fps =>
  have hp0:=hc 0 p u f rfl rfl rfl;have hr':RCs w (Mut X F) X ps us fps.flatten:=⟨by simpa using hl',fps,by simpa using hfl,rfl,fun j q v g hq hv hg=>hc (j+1) q v g (by simpa using hq) (by simpa using hv) (by simpa using hg)⟩
  simp only [vcL1] at hv;split at hv
  ·rename_i q i qs' is h1 h2;simp only [osi,Prod.mk.injEq] at hv;obtain ⟨rfl,rfl⟩:=hv;have k1:=h.vc1_ok hp0 h1 (hn q (by simp)) hN (fun g hg=>hf g (by simp [hg])) (fun j hj=>hl j (by simp [hj])) hτ;have k2:=h.vcL1_ok hr' h2 (fun q hq=>hn q (by simp [hq])) hN (fun g hg=>hf g (by rw [List.flatten_cons];exact lma.2 (.inr hg))) (fun j hj=>hl j (by simp [hj])) hτ;have:=RCs.cons k1 k2;simpa using this
  ·cases hv
theorem SimW.vwQ_ok (h:SimW G X F σ acts w) {p x:PV} {u:Value} {K:List Nat→Prop} (hr:RC w (Mut X F) X p u []) (hv:vwQ σ p x K) (hn:NoRef x) (hτ:X.τ=τ) :
  ∃ l,K l∧∀ N:Nat→Prop,(∀ g,g<w.heap.size→¬ Mut X F g→¬ N g)→(∀ i∈l,∀ g∈Own X F i,¬ N g)→RC w N (X0 τ N) x u []:=by
 unfold vwQ at hv;split at hv
 ·rename_i id full e j;split at hv
  ·rename_i B hB;obtain ⟨hfull,c,hc,hv⟩:=hv;split at hv
   ·rename_i c' l hvc;obtain ⟨rfl,hK⟩:=hv;refine ⟨_,hK,fun N hN hl => ?_⟩;have hid:X.H id=.live B:=by rw [h.hH];exact hB
    obtain ⟨ad,_,h0,hlive⟩:=hr.ptr_inv;obtain ⟨_,h3⟩:=hlive B hid;obtain ⟨he,z,hz,hvv⟩:=h3 hfull;have hb:=h.blk id B hid;obtain ⟨xs,hcs,hat⟩:=hb.cells z hz;have hck:c.length=B.k:=hb.1 c (List.mem_of_getElem? hc);have hO:∀ g∈Own X F id,¬ N g:=hl id (by simp);rw [noRef_rp] at hn;obtain ⟨f1,f2,f3,hF,_,hc2,_⟩:=hcs.parts (e*B.k) B.k;have hseg:(B.l.flatten.drop (e*B.k)).take B.k=c:=by
     have:=flatten_seg B.l hb.1 e 0 B.k c hc (by omega);simp only [Nat.add_zero,List.drop_zero] at this;rw [this,←hck,List.take_length]
    rw [hseg] at hc2;have hrr:=h.vcL1_ok (τ:=τ) hc2 hvc hn hN (fun g hg=>hO g (by simp [Own,hF,hg])) (fun i hi=>hl i (by simp [hi])) hτ;rw [hvv,←addr_assoc];refine .rp (xs:=(xs.drop (e*B.k)).take B.k) (by have:=hrr.1;rw [List.length_map] at this;exact this) (fun i u hu=>⟨by rw [block_add];exact hO z.1 (by simp [Own,hz]),?_⟩) fun i p u hp hu => ?_
    ·rw [List.getElem?_take] at hu;split at hu
     ·rw [List.getElem?_drop] at hu;rw [addr_assoc];exact (hat _ u hu).1
     ·cases hu
    ·exact hrr.get_nofp i p.sh u (by rw [List.getElem?_map,hp];rfl) hu
   ·exact hv.elim
  ·exact hv.elim
 ·exact h.vwP_ok hr hv hn hτ
theorem SimW.vwQL_ok (h:SimW G X F σ acts w):∀ {ps xs:List PV} {us:List Value} {K:List Nat→Prop},RCs w (Mut X F) X ps us []→vwQL σ ps xs K→(∀ x∈xs,NoRef x)→X.τ=τ →
  ∃ l,K l∧∀ N:Nat→Prop,(∀ g,g<w.heap.size→¬ Mut X F g→¬ N g)→(∀ i∈l,∀ g∈Own X F i,¬ N g)→RCs w N (X0 τ N) xs us []
 | [],[],us,K,hr,hv,hn,hτ=>by
  have:us=[]:=List.eq_nil_of_length_eq_zero hr.1.symm;subst this;exact ⟨[],hv,fun _ _ _=>RCs.nil⟩
 | [],_::_,us,K,hr,hv,hn,hτ=>hv.elim
 | _::_,[],us,K,hr,hv,hn,hτ=>hv.elim
 | p::ps,x::xs,us,K,hr,hv,hn,hτ=>by
  cases us with
  | nil=>have:=hr.1;simp at this
  | cons u us =>
  have hp0:=hr.get_nofp 0 p u rfl rfl;have hr':RCs w (Mut X F) X ps us []:=.of_nofp (by have:=hr.1;simpa using this) fun j q v hq hv=>hr.get_nofp (j+1) q v (by simpa using hq) (by simpa using hv)
  obtain ⟨l,hK,k1⟩:=h.vwQ_ok hp0 hv (hn x (by simp)) hτ;obtain ⟨l',hK',k2⟩:=h.vwQL_ok hr' hK (fun x hx=>hn x (by simp [hx])) hτ;refine ⟨l++l',hK',fun N hN hl => ?_⟩;simpa using RCs.cons (k1 N hN fun i hi=>hl i (by simp [hi])) (k2 N hN fun i hi=>hl i (by simp [hi]))
theorem SimW.vwN_ok (h:SimW G X F σ acts w) {p x:PV} {u:Value} {K:List Nat→Prop} (hr:RC w (Mut X F) X p u []) (hv:vwN σ p x K) (hn:NoRef x) (hτ:X.τ=τ) :
  ∃ l,K l∧∀ N:Nat→Prop,(∀ g,g<w.heap.size→¬ Mut X F g→¬ N g)→(∀ i∈l,∀ g∈Own X F i,¬ N g)→RC w N (X0 τ N) x u []:=by
 obtain ⟨f,ps,xs,rfl,rfl,hv⟩:=hv;cases hr with
 | @fn _ _ us hl hc =>
  obtain ⟨l,hK,k⟩:=h.vwQL_ok (us:=us) (.of_nofp hl fun j q v hq hv=>hc j q v hq hv) hv (noRef_fn.1 hn) hτ;refine ⟨l,hK,fun N hN hl' => ?_⟩;have hrr:=k N hN hl';exact .fn hrr.1 fun i p u hp hu=>hrr.get_nofp i p u hp hu
theorem SimW.vwR_ok (h:SimW G X F σ acts w) {r x:R1} {u:Value} {K:List Nat→Prop} (hr:R1R w (Mut X F) X r u []) (hv:vwR σ r x K) (hn:∀ p∈x.cs,NoRef p) (hτ:X.τ=τ) :
  ∃ l,K l∧∀ N:Nat→Prop,(∀ g,g<w.heap.size→¬ Mut X F g→¬ N g)→(∀ i∈l,∀ g∈Own X F i,¬ N g)→R1R w N (X0 τ N) x u []:=by
 cases r with
 | one p =>
  cases x with
  | one x =>
   rcases hv with hv|hv
   ·exact h.vwP_ok hr hv (hn x (by simp [R1.cs])) hτ
   ·exact h.vwN_ok hr hv (hn x (by simp [R1.cs])) hτ
  | agg m=>exact hv.elim
 | agg l =>
  cases x with
  | one x=>exact hv.elim
  | agg m =>
   obtain ⟨xs,rfl,hr⟩:=hr;obtain ⟨l',hK,k⟩:=h.vwL_ok hr hv hn hτ;exact ⟨l',hK,fun N hN hl=>⟨xs,rfl,k N hN hl⟩⟩
end
end Go.Proofs.YteecakkojdhmaaaGreatA.AS
