/- The clean machine's heaps in two parts: what stays as it is, and what is turned; calls that only make memory; more operations, one by one. No program is walked here. · The clean machine's walks, in short words. -/
import Derived.Test.YtkimkgbppegkhaaGreatFnR
set_option linter.unusedVariables false
set_option linter.unusedSimpArgs false
namespace Go.Proofs.YtkimkgbppegkhaaGreat.Cm
open Go Go.RowKit Go.Proofs.YtkimkgbppegkhaaGreat.Gf
/-- X: what stays; M: what is turned -/
structure aa(X H:Heap)(n:Nat)(M:List (Nat×O)):Prop where
 mono:ab X H
 top:ap H n
 own:∀p∈M,H p.1=some p.2∧X p.1=none
 nod:(M.map (·.1)).Nodup
theorem ab.rfl{X:Heap}:ab X X:=fun _ _ h=>h
theorem ab.tr{X Y Z:Heap}(h:ab X Y)(k:ab Y Z):ab X Z:=fun id o ho=>k id o (h id o ho)
section
variable {X H:Heap} {n:Nat} {M:List (Nat×O)}
theorem aa.ini(ht:ap X n):aa X X n []:=⟨ab.rfl,ht,fun _ h=>(by cases h),List.nodup_nil⟩
theorem aa.topX(s:aa X H n M):ap X n:=fun k hk=>by
 cases hq:X k with
 |none=>rfl
 |some o=>have:=s.mono k o hq;rw[s.top k hk]at this;cases this
theorem aa.at(s:aa X H n M)(j:Nat){id:Nat}{ob:O}(h:M[j]?=some (id,ob)):H id=some ob:=(s.own _ (List.mem_of_getElem? h)).1
theorem aa.lt(s:aa X H n M)(j:Nat){id:Nat}{ob:O}(h:M[j]?=some (id,ob)):id<n:=s.top.lt (s.at j h)
theorem aa.newM(s:aa X H n M)(ob:O):aa X (upd H n (some ob)) (n+1) ((n,ob)::M):=by
 refine⟨kX s.mono (s.topX n (Nat.le_refl _)),s.top.new ob,fun p hp=>?_,?_⟩
 ·rcases List.mem_cons.1 hp with rfl | hp
  ·exact⟨bG _ _ _,s.topX _ (Nat.le_refl _)⟩
  ·obtain⟨h1,h2⟩:=s.own p hp
   have:=s.top.lt h1
   exact⟨by rw[br _ _ om];exact h1,h2⟩
 ·rw[List.map_cons,List.nodup_cons]
  refine⟨fun hm=>?_,s.nod⟩
  obtain⟨p,hp,e⟩:=List.mem_map.1 hm
  have:=s.top.lt (s.own p hp).1
  simp only at e
  omega
theorem aa.newF(s:aa X H n M)(ob:O):aa (upd X n (some ob)) (upd H n (some ob)) (n+1) M:=by
 refine⟨fun id o h=>?_,s.top.new ob,fun p hp=>?_,s.nod⟩
 ·by_cases e:id=n
  ·subst e;rw[bG]at h⊢;exact h
  ·rw[br _ _ e]at h⊢;exact s.mono _ _ h
 ·obtain⟨h1,h2⟩:=s.own p hp
  have:=s.top.lt h1
  exact⟨by rw[br _ _ om];exact h1,by rw[br _ _ om];exact h2⟩
theorem aa.newX(s:aa X H n M)(ob:O):ab X (upd X n (some ob)):=kY (s.topX n (Nat.le_refl _))
theorem rX:∀{M:List (Nat×O)} {j id:Nat} {ob ob':O},M[j]?=some (id,ob)→(M.set j (id,ob')).map (·.1)=M.map (·.1)
 |[],_,_,_,_,h=>by simp at h
 |p::M,0,id,ob,ob',h=>by simp at h;subst h;rfl
 |p::M,j+1,id,ob,ob',h=>by
  simp only[List.set_cons_succ,List.map_cons]
  rw[rX (by simpa using h)]
theorem GX{M:List (Nat×O)}(h:(M.map (·.1)).Nodup){j:Nat}{id:Nat}{ob:O}(hj:M[j]?=some (id,ob)){p:Nat×O}(hp:p∈M)(hne:p≠(id,ob)):p.1≠id:=by
 induction M generalizing j with
 |nil=>cases hp
 |cons q M ih=>
  rw[List.map_cons,List.nodup_cons]at h
  cases j with
  |zero=>
   simp at hj
   subst hj
   rcases List.mem_cons.1 hp with rfl | hp
   ·exact absurd rfl hne
   ·intro e;exact h.1 (List.mem_map.2 ⟨p,hp,e⟩)
  |succ j=>
   simp at hj
   rcases List.mem_cons.1 hp with rfl | hp
   ·intro e;exact h.1 (e▸List.mem_map_of_mem (List.mem_of_getElem? hj))
   ·exact ih h.2 hj hp
theorem aa.set(s:aa X H n M)(j:Nat){id:Nat}{ob:O}(hj:M[j]?=some (id,ob))(ob':O):aa X (upd H id (some ob')) n (M.set j (id,ob')):=by
 have hX:X id=none:=(s.own _ (List.mem_of_getElem? hj)).2
 refine⟨kX s.mono hX,s.top.set (s.lt j hj) ob',fun p hp=>?_,by rw[rX hj];exact s.nod⟩
 by_cases e:p.1=id
 ·have hn:((M.set j (id,ob')).map (·.1)).Nodup:=by rw[rX hj];exact s.nod
  have hjl:j<M.length:=by
   rcases Nat.lt_or_ge j M.length with h | h
   ·exact h
   ·rw[List.getElem?_eq_none h]at hj;cases hj
  have hj':(M.set j (id,ob'))[j]?=some (id,ob'):=List.getElem?_set_self hjl
  have:p=(id,ob'):=Classical.byContradiction fun hne=>GX hn hj' hp hne e
  subst this
  exact⟨bG _ _ _,hX⟩
 ·rcases List.mem_or_eq_of_mem_set hp with h | rfl
  ·obtain⟨h1,h2⟩:=s.own p h
   exact⟨by rw[br _ _ e];exact h1,h2⟩
  ·exact absurd rfl e
theorem aa.sub(s:aa X H n M){M':List (Nat×O)}(h:M'.Sublist M):aa X H n M':=⟨s.mono,s.top,fun p hp=>s.own p (h.subset hp),(h.map _).nodup s.nod⟩
theorem aa.del(s:aa X H n M)(j:Nat):aa X H n (M.eraseIdx j):=s.sub (List.eraseIdx_sublist ..)
theorem aa.perm(s:aa X H n M){M':List (Nat×O)}(h:M.Perm M'):aa X H n M':=⟨s.mono,s.top,fun p hp=>s.own p (h.symm.subset hp),(h.map _).nodup_iff.1 s.nod⟩
theorem aa.frz{id:Nat}{ob:O}(s:aa X H n ((id,ob)::M)):aa (upd X id (some ob)) H n M∧ab X (upd X id (some ob)):=by
 obtain⟨h1,h2⟩:=s.own (id,ob) sm
 have hn:=s.nod
 rw[List.map_cons,List.nodup_cons]at hn
 refine⟨⟨fun k o h=>?_,s.top,fun p hp=>?_,hn.2⟩,kY h2⟩
 ·by_cases e:k=id
  ·subst e;rw[bG]at h;cases h;exact h1
  ·rw[br _ _ e]at h;exact s.mono _ _ h
 ·obtain⟨g1,g2⟩:=s.own p (by simp[hp])
  refine⟨g1,?_⟩
  rw[br]
  ·exact g2
  ·intro e;exact hn.1 (List.mem_map.2 ⟨p,hp,e⟩)
theorem aa.callA{P:Program}{f:Nat}{args:List V}{v:V}{X' H':Heap}{n':Nat}{M':List (Nat×O)}(s:aa X H n M)(hc:aS P f args X n v H' n')(hm:ab X X')(s':aa X' H' n' M'):
 ∃H2,aS P f args H n v H2 n'∧aa X' H2 n' (M++M'):=by
 obtain⟨E,hE⟩:∃E:Heap,E=fun k=>match X k with | none=>H k | some _=>none:=⟨_,_root_.rfl⟩
 have hEH:X.or E=H:=by
  funext k
  unfold Heap.or
  rw[hE]
  cases hx:X k with
  |none=>simp only[hx]
  |some o=>simp only;exact(s.mono k o hx).symm
 have hEX:∀k,X k≠none→E k=none:=fun k h=>by
  rw[hE]
  cases hx:X k with
  |none=>exact absurd hx h
  |some o=>simp only[hx]
 have hEn:∀k,E k≠none→k<n∧X k=none:=fun k h=>by
  rw[hE]at h
  cases hx:X k with
  |some o=>simp only[hx]at h;exact absurd _root_.rfl h
  |none=>
   simp only[hx]at h
   cases hh:H k with
   |none=>exact absurd hh h
   |some o=>exact⟨s.top.lt hh,_root_.rfl⟩
 have hE':∀k,H' k≠none→E k=none:=fun k h=>by
  cases he:E k with
  |none=>rfl
  |some o=>
   obtain⟨h1,h2⟩:=hEn k (by rw[he];simp)
   rcases hc.1.2 k h with h3 | h3
   ·exact absurd h2 h3
   ·omega
 have hb:=hc.beside E (fun k h=>hEX k h) hE'
 rw[hEH]at hb
 have hle:=hc.1.1
 have hM:∀p∈M,E p.1=some p.2∧p.1<n:=fun p hp=>by
  obtain⟨h1,h2⟩:=s.own p hp
  exact⟨by rw[hE];simp only[h2];exact h1,s.top.lt h1⟩
 have hM':∀p∈M',n≤p.1:=fun p hp=>by
  obtain⟨h1,h2⟩:=s'.own p hp
  rcases hc.1.2 p.1 (by rw[h1];simp)with h3 | h3
  ·cases hx:X p.1 with
   |none=>exact absurd hx h3
   |some o=>have:=hm _ _ hx;rw[h2]at this;cases this
  ·exact h3.1
 refine⟨_,hb,fun id o h=>Heap.or_left (s'.mono id o h),fun k hk=>?_,fun p hp=>?_,?_⟩
 ·rw[Heap.or_right (s'.top k hk)]
  cases he:E k with
  |none=>rfl
  |some o=>have:=(hEn k (by rw[he];simp)).1;omega
 ·rcases List.mem_append.1 hp with hp | hp
  ·obtain⟨h1,h2⟩:=hM p hp
   have h3:H' p.1=none:=by
    cases hq:H' p.1 with
    |none=>rfl
    |some o=>have:=hE' p.1 (by rw[hq];simp);rw[h1]at this;cases this
   refine⟨by rw[Heap.or_right h3];exact h1,?_⟩
   cases hx:X' p.1 with
   |none=>rfl
   |some o=>have:=s'.mono _ _ hx;rw[h3]at this;cases this
  ·obtain⟨h1,h2⟩:=s'.own p hp
   exact⟨Heap.or_left h1,h2⟩
 ·rw[List.map_append]
  refine List.nodup_append.2 ⟨s.nod,s'.nod,fun a ha b hb' e=>?_⟩
  obtain⟨p,hp,rfl⟩:=List.mem_map.1 ha
  obtain⟨q,hq,rfl⟩:=List.mem_map.1 hb'
  have h1:=(hM p hp).2
  have h2:=hM' q hq
  omega
theorem aa.call{P:Program}{f:Nat}{args:List V}{v:V}{X':Heap}{n':Nat}(s:aa X H n M)(hc:aS P f args X n v X' n')(hm:ab X X')(ht:ap X' n'):∃H2,aS P f args H n v H2 n'∧aa X' H2 n' M:=by
 obtain⟨H2,h1,h2⟩:=s.callA hc hm (aa.ini ht)
 rw[List.append_nil]at h2
 exact⟨H2,h1,h2⟩
theorem aa.callH{P:Program}{f:Nat}{args:List V}{v:V}{H':Heap}{n':Nat}(s:aa X H n M)(_:aS P f args H n v H' n')(hm:ab H H')(ht:ap H' n'):aa X H' n' M:=
 ⟨s.mono.tr hm,ht,fun p hp=>⟨hm _ _ (s.own p hp).1,(s.own p hp).2⟩,s.nod⟩
end
/-- a call that only makes memory -/
def af(f:Nat)(args:List V)(X:Heap)(n:Nat)(Post:V→Heap→Prop):Prop:=∃v X' n',aS Tryz.prog f args X n v X' n'∧ab X X'∧ap X' n'∧Post v X'
theorem af.of_to{f:Nat}{args:List V}{X:Heap}{n:Nat}{Post:V→Heap→Prop}(hb:lm Tryz.prog f args.length=true)
 (h:To Tryz.prog f [] (tl (js args 0)) X n (nj Tryz.prog f fun v H n'=>∃X' M,aa X' H n' M∧ab X X'∧Post v X')):af f args X n Post:=by
 obtain⟨v,H',n',h1,X',M,s,h2,h3⟩:=aS.of_to hb h
 exact⟨v,X',n',h1.less s.mono (Nat.le_refl _),h2,s.topX,h3⟩
theorem af.imp{f:Nat}{args:List V}{X:Heap}{n:Nat}{Post Post':V→Heap→Prop}(h:af f args X n Post)(hp:∀v X',Post v X'→Post' v X'):af f args X n Post':=by
 obtain⟨v,X',n',h1,h2,h3,h4⟩:=h
 exact⟨v,X',n',h1,h2,h3,hp _ _ h4⟩
/-- a call that makes memory, some of which may be turned -/
def bF(f:Nat)(args:List V)(X:Heap)(n:Nat)(Post:V→Heap→List (Nat×O)→Prop):Prop:=∃v X' H' n' M',aS Tryz.prog f args X n v H' n'∧ab X X'∧aa X' H' n' M'∧Post v X' M'
theorem bF.of_to{f:Nat}{args:List V}{X:Heap}{n:Nat}{Post:V→Heap→List (Nat×O)→Prop}(hb:lm Tryz.prog f args.length=true)
 (h:To Tryz.prog f [] (tl (js args 0)) X n (nj Tryz.prog f fun v H n'=>∃X' M,aa X' H n' M∧ab X X'∧Post v X' M)):bF f args X n Post:=by
 obtain⟨v,H',n',h1,X',M,s,h2,h3⟩:=aS.of_to hb h
 exact⟨v,X',H',n',M,h1,h2,s,h3⟩
/-- a list that grows by append: nothing yet, or a block of its own -/
def bO(sz:Nat)(a:F)(fs:List F):Prop:=(a=.sl0∧fs=[])∨∃k len,a=.sl k 0 sz len none∧fs.length=len*sz
def a_(a:F)(fs:List F):List (Nat×O):=match a with
 |.sl k _ _ _ _=>[(k,.cells fs false)]
 |_=>[]
theorem bO.nil(sz:Nat):bO sz .sl0 []:=.inl ⟨rfl,rfl⟩
theorem bO.len{sz:Nat}{a:F}{fs:List F}(h:bO sz a fs):∃len,cd a=some len∧fs.length=len*sz:=by
 rcases h with⟨rfl,rfl⟩|⟨k,len,rfl,h⟩
 ·exact⟨0,rfl,sm⟩
 ·exact⟨len,rfl,h⟩
theorem bO.row{X H:Heap}{n sz:Nat}{M1 M2:List (Nat×O)}{a:F}{fs:List F}(h:bO sz a fs)(s:aa X H n (M1++(a_ a fs++M2))):aF H sz a=some fs:=by
 rcases h with⟨rfl,rfl⟩|⟨k,len,rfl,h⟩
 ·rfl
 ·have:=(s.own (k,.cells fs false) (by simp[a_])).1
  simp only at this
  simp only[aF,if_true,this]
  rw[if_pos om]
  simp[←h]
theorem eW{X H:Heap}{n sz bytes m:Nat}{M1 M2:List (Nat×O)}{a x:F}{fs new:List F}(s:aa X H n (M1++(a_ a fs++M2)))(ha:bO sz a fs)(hx:aF H sz x=some new)(hm:cd x=some m)(hsz:0<sz)(hb:(fs.length+m)*bytes*2≤140737488355328):
 ∃a' H' n',bO sz a' (fs++new)∧aa X H' n' (M1++(a_ a' (fs++new)++M2))∧∀(o:Oper) (r:Operand→Option V) (_:jA Tryz.prog o r=some (sz,bytes,a,x):=by kernel_rfl),aE Tryz.prog o r H n (vf a') H' n':=by
 have hnew:new.length=m*sz:=by
  cases x<;>simp only[cd]at hm<;>first
   |(cases hm;done)
   |skip
  ·cases hm
   simp only[aF,Option.some.injEq]at hx
   subst hx;simp
  ·cases hm
   exact(dG hx).2.1
 rcases ha with⟨rfl,rfl⟩|⟨k,len,rfl,hl⟩
 ·by_cases h0:m=0
  ·have hn0:new=[]:=List.eq_nil_of_length_eq_zero (by rw[hnew,h0];simp)
   subst hn0
   refine⟨.sl0,H,n,.inl ⟨rfl,rfl⟩,s,fun o r hk=>?_⟩
   exact fB hx hm (ef:=(vf .sl0,[],0)) (by simp[df,h0]) hk
  ·have hbb:m*bytes*2≤140737488355328:=by simpa using hb
   refine⟨.sl n 0 sz m none,upd H n (some (.cells new false)),n+1,.inr ⟨n,m,rfl,by simpa using hnew⟩,?_,fun o r hk=>?_⟩
   ·refine(s.newM (.cells new false)).perm ?_
    simp only[a_,List.nil_append]
    exact List.perm_middle.symm
   ·exact fB hx hm (ef:=(vf (.sl n 0 sz m none),[(n,some (.cells new false))],1)) (by simp[df,h0,hbb]) hk
 ·have hk0:=s.own (k,.cells fs false) (by simp[a_])
  obtain⟨hk1,hk2⟩:=hk0
  simp only at hk1 hk2
  have hmulb:(len+m)*bytes*2≤140737488355328:=by
   refine Nat.le_trans (Nat.mul_le_mul_right _ (Nat.mul_le_mul_right _ ?_)) hb
   have:len≤len*sz:=Nat.le_mul_of_pos_right _ hsz
   omega
  by_cases h0:m=0
  ·have hn0:new=[]:=List.eq_nil_of_length_eq_zero (by rw[hnew,h0];simp)
   subst hn0
   refine⟨.sl k 0 sz len none,H,n,.inr ⟨k,len,rfl,by simpa using hl⟩,by simpa using s,fun o r hk=>?_⟩
   have:=fB (n:=n) hx hm (ef:=(vf (.sl k 0 sz (len+m) none),[(k,some (.cells (aJ fs (0+len*sz) []) false))],0)) (bytes:=bytes) (s:=.sl k 0 sz len none) (by
    simp only[df,if_true,hk1]
    rw[if_pos om,if_pos hmulb,if_pos (by rw[h0];simp;omega)]) hk
   rw[nT,h0]at this
   simp only[bL,Nat.add_zero]at this
   rw[oh hk1]at this
   exact this
  ·have hmpos:0<m*sz:=Nat.mul_pos om hsz
   refine⟨.sl n 0 sz (len+m) none,upd (upd H k none) n (some (.cells (fs++new) false)),n+1,.inr ⟨n,len+m,rfl,by rw[List.length_append,hl,hnew,Nat.add_mul]⟩,?_,fun o r hk=>?_⟩
   ·have s1:aa X (upd H k none) n (M1++M2):=by
     have hn:=s.nod
     simp only[a_,List.singleton_append]at hn
     have hp:(M1++(k,O.cells fs false)::M2).Perm ((k,O.cells fs false)::(M1++M2)):=List.perm_middle
     have hn2:=(hp.map (·.1)).nodup_iff.1 hn
     rw[List.map_cons,List.nodup_cons]at hn2
     refine⟨fun id o h=>?_,fun j hj=>?_,fun p hp=>?_,hn2.2⟩
     ·rw[br]
      ·exact s.mono _ _ h
      ·rintro rfl;rw[hk2]at h;cases h
     ·by_cases e:j=k
      ·subst e;exact bG _ _ _
      ·rw[br _ _ e];exact s.top j hj
     ·obtain⟨g1,g2⟩:=s.own p (by simp only[a_,List.singleton_append,List.mem_append,List.mem_cons]at hp⊢; rcases hp with hp | hp<;>simp[hp])
      refine⟨?_,g2⟩
      rw[br]
      ·exact g1
      ·intro e;exact hn2.1 (List.mem_map.2 ⟨p,hp,e⟩)
    refine(s1.newM (.cells (fs++new) false)).perm ?_
    simp only[a_,List.singleton_append]
    exact List.perm_middle.symm
   ·have:=fB (n:=n) hx hm (ef:=(vf (.sl n 0 sz (len+m) none),[(k,none),(n,some (.cells (fs.take (len*sz)++new) false))],1)) (bytes:=bytes) (s:=.sl k 0 sz len none) (by
     have e1:¬(0+(len+m)*sz≤fs.length):=by rw[Nat.add_mul];omega
     simp only[df,if_true,hk1]
     rw[if_pos om,if_pos hmulb,if_neg e1]
     simp) hk
    rw[List.take_of_length_le om]at this
    exact this
theorem aa.acc{X H:Heap}{n sz:Nat}{M1 M2:List (Nat×O)}{a:F}{fs:List F}(s:aa X H n (M1++(a_ a fs++M2)))(ha:bO sz a fs):∃X',ab X X'∧aa X' H n (M1++M2)∧aF X' sz a=some fs∧(∀k o z l c,a=.sl k o z l c→X' k=some (.cells fs false)):=by
 rcases ha with⟨rfl,rfl⟩|⟨k,len,rfl,hl⟩
 ·exact⟨X,ab.rfl,s,rfl,fun _ _ _ _ _ h=>by cases h⟩
 ·have s2:=s.perm (show(M1++(a_ (.sl k 0 sz len none) fs++M2)).Perm ((k,.cells fs false)::(M1++M2))by
   simp only[a_,List.singleton_append]
   exact List.perm_middle)
  obtain⟨h1,h2⟩:=s2.frz
  refine⟨_,h2,h1,?_,fun k' o z l c h=>by cases h;exact bG _ _ _⟩
  simp only[aF,if_true,bG]
  rw[if_pos om]
  simp[←hl]
theorem aC.for{P:Program}{f:Nat}{p:List Nat}{K:Ko}(N:Nat)(I:Nat→Tm→Heap→Nat→Prop){A:Tm}{H:Heap}{n:Nat}(h0:I 0 A H n)
 (step:∀i A H n,i<N→I i A H n→To P f p A H n fun x A' H' n'=>(x=.normal∧I (i+1) A' H' n')∨(x≠.normal∧K x A' H' n'))
 (stop:∀A H n,I N A H n→To P f p A H n fun x A' H' n'=>x≠.normal∧K x A' H' n'):aC P f p A H n K:=by
 have:∀(k i:Nat),i+k=N→∀A H n,I i A H n→aC P f p A H n K:=by
  intro k
  induction k with
  |zero=>
   intro i hi A H n hI
   have hi:i=N:=by omega
   subst hi
   refine aC.round ((stop A H n hI).imp fun x A' H' n' h=>?_)
   obtain⟨h1,h2⟩:=h
   cases x<;>first
    |exact absurd rfl h1
    |exact h2
  |succ k ih=>
   intro i hi A H n hI
   refine aC.round ((step i A H n om hI).imp fun x A' H' n' h=>?_)
   rcases h with⟨rfl,h⟩|⟨h1,h2⟩
   ·exact ih (i+1) om _ _ _ h
   ·cases x<;>first
     |exact absurd rfl h1
     |exact h2
 exact this N 0 om A H n h0
section
variable {P:Program} {H:Heap} {n:Nat} {o:Oper} {r:Operand→Option V}
theorem FL{id off:Nat}{new cs cs':List F}{ex:Bool}(hh:H id=some (.cells cs ex))(hle:off+new.length≤cs.length)(hs:aJ cs off new=cs')(hk:kp P o r=some (id,off,new):=by kernel_rfl):aE P o r H n cy (upd H id (some (.cells cs' ex))) n:=hs▸sV hh hle hk
theorem aG{id off sz:Nat}{cs c:List F}{ex:Bool}(hh:H id=some (.cells cs ex))(hx:off+sz≤cs.length)(hc:(cs.drop off).take sz=c)(hk:qe P o r=some (id,off,sz):=by kernel_rfl):aE P o r H n (.u (.agg c)) H n:=hc▸Gs hh hx hk
noncomputable def tj(P:Program)(o:Oper)(r:Operand→Option V):Option F:=match o.op with
 |.call {callee:=.builtin .len,args:=xs,argTypes:=ats}=>match ct r xs.toList,ats[0]? with
  |some [.u (.f x)],some t=>match P.underlying t with
   |some (.slice _)=>some x
   |_=>none
  |_,_=>none
 |_=>none
theorem fw{x:F}{l:Nat}(hx:cd x=some l)(hk:tj P o r=some x:=by kernel_rfl):aE P o r H n (vi l) H n:=by
 unfold tj at hk
 split at hk
 ·rename_i xs ats ho
  split at hk
  ·rename_i x t h1 h2
   split at hk
   ·rename_i e h3
    cases hk
    exact .prim (vi l,[],0) (by simp only[ho,stepOp,h1,cK,h2,gy,h3,hx])
   ·cases hk
  ·cases hk
 ·cases hk
noncomputable def ko(P:Program)(o:Oper)(r:Operand→Option V):Option (F×Nat×Option Nat×Option Nat):=match o.op with
 |.slice t x lo hi none=>match r x,cR r lo,cR r hi with
  |some (.u (.f x)),some lo,some hi=>match P.underlying t with
   |some (.slice e)=>match cj P e with
    |some sz=>some (x,sz,lo,hi)
    |none=>none
   |_=>none
  |_,_,_=>none
 |_=>none
theorem c7{id off sz len L l h:Nat}{cap:Option Nat}{lo hi:Option Nat}(hL:(H id).bind gj=some L)(hl:lo.getD 0=l)(hh:hi.getD len=h)(hlh:l≤h)(hhL:off+h*sz≤L)(hc:∀c,cap=some c→h≤c)(hsz:0<sz)
 (hk:ko P o r=some (.sl id off sz len cap,sz,lo,hi):=by kernel_rfl):aE P o r H n (vf (.sl id (off+l*sz) sz (h-l) (cap.map (· - l)))) H n:=by
 unfold ko at hk
 split at hk
 ·rename_i t x lo' hi' ho
  split at hk
  ·rename_i x' lo2 hi2 h1 h2 h3
   split at hk
   ·rename_i e hu
    split at hk
    ·rename_i sz' hsz'
     cases hk
     have hmx:cR r none=some none:=rfl
     refine .prim (vf (.sl id (off+l*sz) sz (h-l) (cap.map (· - l))),[],0) ?_
     have hkn:h≤cap.getD ((L-off)/sz):=by
      cases cap with
      |some c=>exact hc c rfl
      |none=>
       simp only[Option.getD_none]
       exact(Nat.le_div_iff_mul_le hsz).2 om
     have hcut:d8 len (cap.getD ((L-off)/sz)) cap lo hi none=some (l,h,cap):=by
      simp only[d8,hl,hh]
      rw[if_pos ⟨hkn,hlh⟩]
     simp only[ho,stepOp,h1,h2,h3,hmx,hu,hsz',hL,hcut]
     rw[if_pos ⟨trivial,hsz,om⟩]
    ·cases hk
   ·cases hk
  ·cases hk
 ·cases hk
theorem r7{sz:Nat}{lo hi:Option Nat}(hl:lo.getD 0=0)(hh:hi.getD 0=0)(hk:ko P o r=some (.sl0,sz,lo,hi):=by kernel_rfl):aE P o r H n (vf .sl0) H n:=by
 unfold ko at hk
 split at hk
 ·rename_i t x lo' hi' ho
  split at hk
  ·rename_i x' lo2 hi2 h1 h2 h3
   split at hk
   ·rename_i e hu
    split at hk
    ·rename_i sz' hsz'
     cases hk
     have hmx:cR r none=some none:=rfl
     refine .prim (vf .sl0,[],0) ?_
     simp only[ho,stepOp,h1,h2,h3,hmx,hu,hsz',d8,hl,hh]
     rfl
    ·cases hk
   ·cases hk
  ·cases hk
 ·cases hk
noncomputable def Am(P:Program)(o:Oper)(r:Operand→Option V):Option (Bool×List Bool×List F×List F):=match o.op with
 |.binOp op t x y _=>match r x,r y,ja P t with
  |some (.u (.agg xs)),some (.u (.agg ys)),some ks=>match op with
   |.eql=>some (true,ks,xs,ys)
   |.neq=>some (false,ks,xs,ys)
   |_=>none
  |_,_,_=>none
 |_=>none
theorem jo{e z:Bool}{ks:List Bool}{xs ys:List F}(h:cm ks xs ys=some (z == e))(hk:Am P o r=some (e,ks,xs,ys):=by kernel_rfl):aE P o r H n (vf (.bool z)) H n:=by
 unfold Am at hk
 split at hk
 ·rename_i op t x y t' ho
  split at hk
  ·rename_i xs' ys' ks' h1 h2 h3
   split at hk
   ·cases hk
    exact .prim (vf (.bool z),[],0) (by simp only[ho,stepOp,h1,h2,aU,eC,h3,h]; cases z<;>rfl)
   ·cases hk
    exact .prim (vf (.bool z),[],0) (by simp only[ho,stepOp,h1,h2,aU,eC,h3,h]; cases z<;>rfl)
   ·cases hk
  ·cases hk
 ·cases hk
theorem eK(k:IntKind){x y:Int}(h:x<y)(t:TypeId):aU P .lss t (vf (.int k x)) (vf (.int k y))=some (.bool true):=by rw[zB,decide_eq_true h]
theorem cr(k:IntKind){x y:Int}(h:y≤x)(t:TypeId):aU P .lss t (vf (.int k x)) (vf (.int k y))=some (.bool false):=by rw[zB,decide_eq_false om]
theorem sO(k:IntKind){x y:Int}(h:y<x)(t:TypeId):aU P .gtr t (vf (.int k x)) (vf (.int k y))=some (.bool true):=by rw[zC,decide_eq_true h]
theorem sS(k:IntKind){x y:Int}(h:x≤y)(t:TypeId):aU P .gtr t (vf (.int k x)) (vf (.int k y))=some (.bool false):=by rw[zC,decide_eq_false om]
theorem sC(k:IntKind){x y:Int}(h:x≤y)(t:TypeId):aU P .leq t (vf (.int k x)) (vf (.int k y))=some (.bool true):=by rw[zm,decide_eq_true h]
theorem yV(k:IntKind){x y:Int}(h:y<x)(t:TypeId):aU P .leq t (vf (.int k x)) (vf (.int k y))=some (.bool false):=by rw[zm,decide_eq_false om]
theorem yT(k:IntKind){x y:Int}(h:y≤x)(t:TypeId):aU P .geq t (vf (.int k x)) (vf (.int k y))=some (.bool true):=by rw[zu,decide_eq_true h]
theorem gS(k:IntKind){x y:Int}(h:x<y)(t:TypeId):aU P .geq t (vf (.int k x)) (vf (.int k y))=some (.bool false):=by rw[zu,decide_eq_false om]
theorem gR(k:IntKind){x y:Int}(h:x=y)(t:TypeId):aU P .eql t (vf (.int k x)) (vf (.int k y))=some (.bool true):=by rw[zk,decide_eq_true h]
theorem jc(k:IntKind){x y:Int}(h:x≠y)(t:TypeId):aU P .eql t (vf (.int k x)) (vf (.int k y))=some (.bool false):=by rw[zk,decide_eq_false h]
theorem lB(k:IntKind){x y:Int}(h:x≠y)(t:TypeId):aU P .neq t (vf (.int k x)) (vf (.int k y))=some (.bool true):=by rw[pI,decide_eq_true h]
theorem gg(k:IntKind){x y:Int}(h:x=y)(t:TypeId):aU P .neq t (vf (.int k x)) (vf (.int k y))=some (.bool false):=by rw[pI,decide_eq_false om]
theorem pC(a b:Nat)(h0:b≠0)(ha:a<9223372036854775808)(t:TypeId):aU P .quo t (vi a) (vi b)=some (.int .i64 ((a/b:Nat):Int)):=
 G8 .i64 a b _ om (eJ rfl (Nat.lt_of_le_of_lt (Nat.div_le_self a b) ha)) t
theorem px(a b:Nat)(h0:b≠0)(t:TypeId):aU P .rem t (vi a) (vi b)=some (.int .i64 ((a%b:Nat):Int)):=zp .i64 a b om t
theorem eo(a b:Nat)(h:a+b<9223372036854775808)(t:TypeId):aU P .add t (vi a) (vi b)=some (.int .i64 ((a+b:Nat):Int)):=iP .i64 a b _ (eJ om h) t
theorem iH(a b:Nat)(hb:b≤a)(h:a<9223372036854775808)(t:TypeId):aU P .sub t (vi a) (vi b)=some (.int .i64 ((a-b:Nat):Int)):=zj .i64 a b _ (eJ om om) t
end
theorem cu{X H:Heap}{n:Nat}{M:List (Nat×O)}(s:aa X H n M)(ob:O):∃H',aa X H' (n+1) ((n,ob)::M)∧∀(o:Oper) (r:Operand→Option V) (v:V) (_:mN Tryz.prog o r n=some (v,ob):=by kernel_rfl),aE Tryz.prog o r H n v H' (n+1):=
 ⟨_,s.newM ob,fun _ _ _ hk=>mS hk⟩
theorem bj{X H:Heap}{n:Nat}{M:List (Nat×O)}(s:aa X H n M)(ob:O):∃X' H',aa X' H' (n+1) M∧ab X X'∧X' n=some ob∧∀(o:Oper) (r:Operand→Option V) (v:V) (_:mN Tryz.prog o r n=some (v,ob):=by kernel_rfl),aE Tryz.prog o r H n v H' (n+1):=
 ⟨_,_,s.newF ob,s.newX ob,bG _ _ _,fun _ _ _ hk=>mS hk⟩
theorem sU{X H:Heap}{n a:Nat}{M:List (Nat×O)}(s:aa X H n M)(ti:TI)(ha:a*ti.bytes≤140737488355328){cs:List F}(hcs:ci ti.zero a=cs):∃H',aa X H' (n+1) ((n,.cells cs true)::M)∧∀(o:Oper) (r:Operand→Option V) (_:qB Tryz.prog o r=some (ti,a):=by kernel_rfl),aE Tryz.prog o r H n (vf (.sl n 0 ti.size a none)) H' (n+1):=
 ⟨_,s.newM _,fun _ _ hk=>hcs▸pQ ha hk⟩
theorem dE{X H:Heap}{n:Nat}{M:List (Nat×O)}(s:aa X H n M)(j:Nat){id off:Nat}{cs new cs':List F}{ex:Bool}(hj:M[j]?=some (id,.cells cs ex))(hle:off+new.length≤cs.length)(hs:aJ cs off new=cs'):
 ∃H',aa X H' n (M.set j (id,.cells cs' ex))∧∀(o:Oper) (r:Operand→Option V) (_:kp Tryz.prog o r=some (id,off,new):=by kernel_rfl),aE Tryz.prog o r H n cy H' n:=
 ⟨_,s.set j hj _,fun _ _ hk=>FL (s.at j hj) hle hs hk⟩
end Go.Proofs.YtkimkgbppegkhaaGreat.Cm
namespace Go.Proofs.YtkimkgbppegkhaaGreat.Cm
open Go Go.RowKit
/-- a whole number in a cell -/
abbrev iN(n:Nat):F:=.int .i64 (n:Int)
section
variable {P:Program} {f:Nat} {p q:List Nat} {A:Tm} {H:Heap} {n:Nat} {K:Ko}
theorem nx(h:To P f q A H n K):er P f q K .normal A H n:=h
theorem sq(h:To P f (0::p) A H n (er P f (1::p) K))(hk:b0 (aH P f p)=5:=by kernel_rfl):To P f p A H n K:=To.seq hk h
theorem rg(h:Sg P f p 0 A H n K)(hk:b0 (aH P f p)=3:=by kernel_rfl):To P f p A H n K:=To.region hk h
theorem dn{i:Nat}(h:K .normal A H n)(hi:Nat.ble (cz (aH P f p)).size i=true:=by kernel_rfl):Sg P f p i A H n K:=Sg.done hi h
theorem sk(h:K .normal A H n)(hk:b0 (aH P f p)=0:=by kernel_rfl):To P f p A H n K:=To.skip hk h
theorem go{l:List (Nat×V)}(k:Nat){i:Nat}(hk:Sg P f p (i+k) (tl (iK P f p k i l)) H n K)(h:(fi P f p k i l).isSome=true:=by kernel_rfl):Sg P f p i (tl l) H n K:=Sg.go k h hk
theorem iT(h:To P f (0::p) A H n K)(hk:b0 (aH P f p)=6:=by kernel_rfl)(hc:aZ A (l3 (aH P f p))=some (vf (.bool true)):=by kernel_rfl):To P f p A H n K:=To.ifT hk hc h
theorem iF(h:To P f (1::p) A H n K)(hk:b0 (aH P f p)=6:=by kernel_rfl)(hc:aZ A (l3 (aH P f p))=some (vf (.bool false)):=by kernel_rfl):To P f p A H n K:=To.ifF hk hc h
theorem rt(h:K .ret A H n)(hk:b0 (aH P f p)=2:=by kernel_rfl):To P f p A H n K:=To.ret hk h
theorem op{i:Nat}{l:List (Nat×V)}{v:V}{H1:Heap}{n1:Nat}(d:Option Tmp)(J:aE P (bH P f p i) (aZ (tl l)) H n v H1 n1)(k:Sg P f p (i+1) (tl (ey l d v)) H1 n1 K)(h:eu P f p i (tl l)=some (true,d):=by kernel_rfl):Sg P f p i (tl l) H n K:=Sg.op d h J k
theorem bk(id:Nat)(h:To P f (0::p) A H n (pk id K))(hk:rW (aH P f p)=some id:=by kernel_rfl):To P f p A H n K:=To.block id hk h
section
variable {o:Oper} {r:Operand→Option V}
theorem sQ(a b:Nat)(h:a<b)(t:TypeId):aU P .lss t (vi a) (vi b)=some (.bool true):=eK .i64 om t
theorem lT(a b:Nat)(h:a<b:=by omega)(hk:dZ o r=some (.lss,vi a,vi b):=by kernel_rfl):aE P o r H n (vf (.bool true)) H n:=au (sQ a b h) hk
theorem yW(a b:Nat)(h:b≤a)(t:TypeId):aU P .lss t (vi a) (vi b)=some (.bool false):=cr .i64 om t
theorem lF(a b:Nat)(h:b≤a:=by omega)(hk:dZ o r=some (.lss,vi a,vi b):=by kernel_rfl):aE P o r H n (vf (.bool false)) H n:=au (yW a b h) hk
theorem yN(a b:Nat)(h:b<a)(t:TypeId):aU P .gtr t (vi a) (vi b)=some (.bool true):=sO .i64 om t
theorem gT(a b:Nat)(h:b<a:=by omega)(hk:dZ o r=some (.gtr,vi a,vi b):=by kernel_rfl):aE P o r H n (vf (.bool true)) H n:=au (yN a b h) hk
theorem yA(a b:Nat)(h:a≤b)(t:TypeId):aU P .gtr t (vi a) (vi b)=some (.bool false):=sS .i64 om t
theorem gF(a b:Nat)(h:a≤b:=by omega)(hk:dZ o r=some (.gtr,vi a,vi b):=by kernel_rfl):aE P o r H n (vf (.bool false)) H n:=au (yA a b h) hk
theorem GM(a b:Nat)(h:a≤b)(t:TypeId):aU P .leq t (vi a) (vi b)=some (.bool true):=sC .i64 om t
theorem kT(a b:Nat)(h:a≤b:=by omega)(hk:dZ o r=some (.leq,vi a,vi b):=by kernel_rfl):aE P o r H n (vf (.bool true)) H n:=au (GM a b h) hk
theorem GS(a b:Nat)(h:b<a)(t:TypeId):aU P .leq t (vi a) (vi b)=some (.bool false):=yV .i64 om t
theorem kF(a b:Nat)(h:b<a:=by omega)(hk:dZ o r=some (.leq,vi a,vi b):=by kernel_rfl):aE P o r H n (vf (.bool false)) H n:=au (GS a b h) hk
theorem GZ(a b:Nat)(h:b≤a)(t:TypeId):aU P .geq t (vi a) (vi b)=some (.bool true):=yT .i64 om t
theorem hT(a b:Nat)(h:b≤a:=by omega)(hk:dZ o r=some (.geq,vi a,vi b):=by kernel_rfl):aE P o r H n (vf (.bool true)) H n:=au (GZ a b h) hk
theorem Gq(a b:Nat)(h:a<b)(t:TypeId):aU P .geq t (vi a) (vi b)=some (.bool false):=gS .i64 om t
theorem hF(a b:Nat)(h:a<b:=by omega)(hk:dZ o r=some (.geq,vi a,vi b):=by kernel_rfl):aE P o r H n (vf (.bool false)) H n:=au (Gq a b h) hk
theorem lA(a b:Nat)(h:a=b)(t:TypeId):aU P .eql t (vi a) (vi b)=some (.bool true):=gR .i64 om t
theorem eT(a b:Nat)(h:a=b:=by omega)(hk:dZ o r=some (.eql,vi a,vi b):=by kernel_rfl):aE P o r H n (vf (.bool true)) H n:=au (lA a b h) hk
theorem jR(a b:Nat)(h:a≠b)(t:TypeId):aU P .eql t (vi a) (vi b)=some (.bool false):=jc .i64 om t
theorem eF(a b:Nat)(h:a≠b:=by omega)(hk:dZ o r=some (.eql,vi a,vi b):=by kernel_rfl):aE P o r H n (vf (.bool false)) H n:=au (jR a b h) hk
theorem Gz(a b:Nat)(h:a≠b)(t:TypeId):aU P .neq t (vi a) (vi b)=some (.bool true):=lB .i64 om t
theorem uT(a b:Nat)(h:a≠b:=by omega)(hk:dZ o r=some (.neq,vi a,vi b):=by kernel_rfl):aE P o r H n (vf (.bool true)) H n:=au (Gz a b h) hk
theorem mO(a b:Nat)(h:a=b)(t:TypeId):aU P .neq t (vi a) (vi b)=some (.bool false):=gg .i64 om t
theorem uF(a b:Nat)(h:a=b:=by omega)(hk:dZ o r=some (.neq,vi a,vi b):=by kernel_rfl):aE P o r H n (vf (.bool false)) H n:=au (mO a b h) hk
theorem aN(a b:Nat)(h:a+b<9223372036854775808:=by omega)(hk:dZ o r=some (.add,vi a,vi b):=by kernel_rfl):aE P o r H n (vi (a+b)) H n:=au (eo a b h) hk
theorem sN(a b:Nat)(h:b≤a:=by omega)(h2:a<9223372036854775808:=by omega)(hk:dZ o r=some (.sub,vi a,vi b):=by kernel_rfl):aE P o r H n (vi (a-b)) H n:=au (iH a b h h2) hk
theorem ix(id off sz len k:Nat)(h:k<len:=by omega)(hk:tx P o r=some (id,off,sz,len,k):=by kernel_rfl):aE P o r H n (vf (.ptr id (off+k*sz))) H n:=bD h hk
theorem ld{id:Nat}{cs:List F}{ex:Bool}{x:F}(off:Nat)(hh:H id=some (.cells cs ex))(hx:cs[off]?=some x)(hk:l8 P o r=some (id,off):=by kernel_rfl):aE P o r H n (vf x) H n:=am hh hx hk
theorem la{id:Nat}{cs:List F}{ex:Bool}(off sz:Nat)(c:List F)(hh:H id=some (.cells cs ex))(hx:off+sz≤cs.length:=by simp)(hc:(cs.drop off).take sz=c:=by rfl)(hk:qe P o r=some (id,off,sz):=by kernel_rfl):aE P o r H n (.u (.agg c)) H n:=aG hh hx hc hk
theorem lx(id off:Nat)(x:F)(h:cn H id off x)(hk:l8 P o r=some (id,off):=by kernel_rfl):aE P o r H n (vf x) H n:=eq h hk
theorem ln(l:Nat)(hk:tC P o r=some l:=by kernel_rfl):aE P o r H n (vi l) H n:=fC hk
theorem lv{x:F}(l:Nat)(h:cd x=some l)(hk:tj P o r=some x:=by kernel_rfl):aE P o r H n (vi l) H n:=fw h hk
end
theorem ov{i:Nat}{l:List (Nat×V)}{v:V}{H1:Heap}{n1:Nat}(d:Nat)(J:aE P (bH P f p i) (aZ (tl l)) H n v H1 n1)(k:Sg P f p (i+1) (tl (ey l (some d) v)) H1 n1 K)(h:eu P f p i (tl l)=some (true,some d):=by kernel_rfl):Sg P f p i (tl l) H n K:=Sg.op (some d) h J k
theorem oe{i:Nat}{l:List (Nat×V)}{v:V}{H1:Heap}{n1:Nat}(J:aE P (bH P f p i) (aZ (tl l)) H n v H1 n1)(k:Sg P f p (i+1) (tl (ey l none v)) H1 n1 K)(h:eu P f p i (tl l)=some (true,none):=by kernel_rfl):Sg P f p i (tl l) H n K:=Sg.op none h J k
theorem jC{o:Oper}{r:Operand→Option V}{g:Nat}{args:List V}{v:V}{H':Heap}{n':Nat}(hc:aS P g args H n v H' n')(hg:bX P g=true:=by kernel_rfl)(hk:lI o r=some (g,args):=by kernel_rfl):aE P o r H n v H' n':=b_ hg hc hk
section
variable {i:Nat} {L:List Nat} {es:List (Nat×Heap×Heap)} {qs:List Rd} {l:List (Nat×V)} {v:V} {H1:Heap} {n1:Nat}
theorem oR{b:Nat→Nat}{H H1:Heap}:∀{l:List Rd},l.all (fun q=>ic b i q.1)=true→ku b i H H1 l
 |[],_=>trivial
 |q::r,h=>by rw[List.all_cons,Bool.and_eq_true]at h;exact⟨.inl h.1,oR h.2⟩
theorem oE{b:Nat→Nat}{id:Nat}{fq:Option O→Option V}:∀{l:List (Nat×Heap×Heap)},l.all (fun q=>ic b q.1 i)=true→kD b i id fq l
 |[],_=>trivial
 |q::r,h=>by rw[List.all_cons,Bool.and_eq_true]at h;exact⟨.inl h.1,oE h.2⟩
theorem ke{b:Bool}{H1 H2:Heap}{id:Nat}{o:O}{fq:Option O→Option V}(a:H1 id=some o)(c:H2 id=some o):b=true∨fq (H1 id)=fq (H2 id):=.inr (by rw[a,c])
theorem kf{b:Bool}{H1 H2:Heap}{id:Nat}{o o2:O}{fq:Option O→Option V}(a:H1 id=some o)(c:H2 id=some o2)(h:fq (some o)=fq (some o2):=by kernel_rfl):b=true∨fq (H1 id)=fq (H2 id):=.inr (by rw[a,c];exact h)
theorem ki{b:Bool}{q:Prop}(h:b=true:=by kernel_rfl):b=true∨q:=.inl h
theorem ss(d:Option Tmp)(J:aE P (bH P f p i) (aZ (tl l)) H n v H1 n1)(k:Sd P f p L es qs (tl (ey l d v)) H1 n1 K)(h:eu P f p i (tl l)=some (true,d):=by kernel_rfl)(hc:dx P (bH P f p i).op=0:=by kernel_rfl)(hr:jW (bH P f p i).op=false:=by kernel_rfl):Sd P f p (i::L) es qs (tl l) H n K:=Sd.still d h hc hr J k
theorem sr(d:Option Tmp)(id:Nat)(hob:kD (io P f p) i id (iZ P (bH P f p i) (tl l)) es)(J:aE P (bH P f p i) (aZ (tl l)) H n v H1 n1)(k:Sd P f p L es ((i,id,iZ P (bH P f p i) (tl l))::qs) (tl (ey l d v)) H1 n1 K)(h:eu P f p i (tl l)=some (true,d):=by kernel_rfl)(hc:dx P (bH P f p i).op=0:=by kernel_rfl)(hid:cw (aZ (tl l)) (bH P f p i).op=id:=by kernel_rfl):Sd P f p (i::L) es qs (tl l) H n K:=Sd.read d id h hc hid hob J k
theorem sf(d:Option Tmp)(J:aE P (bH P f p i) (aZ (tl l)) H n v H1 n1)(hob:ku (io P f p) i H H1 qs)(k:Sd P f p L ((i,H,H1)::es) qs (tl (ey l d v)) H1 n1 K)(h:eu P f p i (tl l)=some (true,d):=by kernel_rfl)(hc:Nat.beq (dx P (bH P f p i).op) 0=false:=by kernel_rfl):Sd P f p (i::L) es qs (tl l) H n K:=Sd.eff d h hc J hob k
theorem sg(M:List Nat)(k:Sd P f p L es qs (tl (sJ P f p M l)) H n K)(h:(ni P f p M l).isSome=true:=by kernel_rfl):Sd P f p (M++L) es qs (tl l) H n K:=Sd.go M h k
theorem sx(h:K .normal A H n):Sd P f p [] es qs A H n K:=Sd.done h
theorem dw(L:List Nat)(h:Sd Tryz.prog f p L [] [] A H n K)(hk:b0 (aH Tryz.prog f p)=4:=by kernel_rfl)(hL:tS Tryz.prog f p=L:=by kernel_rfl):To Tryz.prog f p A H n K:=To.draw L cX hk hL h
theorem lp(h:aC P f (0::p) A H n K)(hk:b0 (aH P f p)=8:=by kernel_rfl):To P f p A H n K:=To.loop hk h
theorem aj{q1:List Nat}{i:Nat}(h:To P f q1 A H n K)(a1:Nat.ble (cz (aH P f p)).size i=true:=by kernel_rfl):Sg P f p i A H n (er P f q1 K):=dn (nx h) a1
theorem ag(h:Sg P f (0::p) 0 A H n (er P f (1::p) K))(a1:b0 (aH P f p)=5:=by kernel_rfl)(a2:b0 (aH P f (0::p))=3:=by kernel_rfl):To P f p A H n K:=sq (rg h a2) a1
theorem ae{q1:List Nat}{i:Nat}{l:List (Nat×V)}(k:Nat)(h:To P f q1 (tl (iK P f p k i l)) H n K)(a1:(fi P f p k i l).isSome=true:=by kernel_rfl)(a2:Nat.ble (cz (aH P f p)).size (i+k)=true:=by kernel_rfl):Sg P f p i (tl l) H n (er P f q1 K):=go k (dn (nx h) a2) a1
theorem ai{l:List (Nat×V)}(k:Nat)(h:Sg P f (0::p) (0+k) (tl (iK P f (0::p) k 0 l)) H n (er P f (1::p) K))(a1:b0 (aH P f p)=5:=by kernel_rfl)(a2:b0 (aH P f (0::p))=3:=by kernel_rfl)(a3:(fi P f (0::p) k 0 l).isSome=true:=by kernel_rfl):To P f p (tl l) H n K:=sq (rg (go k h a3) a2) a1
theorem ah{l:List (Nat×V)}(k:Nat)(h:To P f (1::p) (tl (iK P f (0::p) k 0 l)) H n K)(a1:b0 (aH P f p)=5:=by kernel_rfl)(a2:b0 (aH P f (0::p))=3:=by kernel_rfl)(a3:(fi P f (0::p) k 0 l).isSome=true:=by kernel_rfl)(a4:Nat.ble (cz (aH P f (0::p))).size (0+k)=true:=by kernel_rfl):To P f p (tl l) H n K:=sq (rg (go k (dn (nx h) a4) a3) a2) a1
theorem aP{l:List (Nat×V)}(k:Nat)(h:Sg P f (0::0::p) (0+k) (tl (iK P f (0::0::p) k 0 l)) H n (er P f (1::0::p) (er P f (1::p) K)))(a1:b0 (aH P f p)=5:=by kernel_rfl)(a2:b0 (aH P f (0::p))=5:=by kernel_rfl)(a3:b0 (aH P f (0::0::p))=3:=by kernel_rfl)(a4:(fi P f (0::0::p) k 0 l).isSome=true:=by kernel_rfl):To P f p (tl l) H n K:=sq (sq (rg (go k h a4) a3) a2) a1
theorem ar(h:K .normal A H n)(a1:b0 (aH P f p)=6:=by kernel_rfl)(a2:aZ A (l3 (aH P f p))=some (vf (.bool false)):=by kernel_rfl)(a3:b0 (aH P f (1::p))=0:=by kernel_rfl):To P f p A H n K:=iF (sk h a3) a1 a2
theorem ax{q1:List Nat}{i:Nat}{l:List (Nat×V)}(k:Nat)(h:K .ret (tl (iK P f p k i l)) H n)(a1:(fi P f p k i l).isSome=true:=by kernel_rfl)(a2:Nat.ble (cz (aH P f p)).size (i+k)=true:=by kernel_rfl)(a3:b0 (aH P f q1)=2:=by kernel_rfl):Sg P f p i (tl l) H n (er P f q1 K):=go k (dn (nx (rt h a3)) a2) a1
theorem aD(k:Nat)(h:To P f (0::0::p) A H n (pk k (er P f (1::p) K)))(a1:b0 (aH P f p)=5:=by kernel_rfl)(a2:rW (aH P f (0::p))=some k:=by kernel_rfl):To P f p A H n K:=sq (bk k h a2) a1
theorem aM(h:K .normal A H n)(a1:b0 (aH P f p)=6:=by kernel_rfl)(a2:aZ A (l3 (aH P f p))=some (vf (.bool true)):=by kernel_rfl)(a3:b0 (aH P f (0::p))=0:=by kernel_rfl):To P f p A H n K:=iT (sk h a3) a1 a2
theorem aQ{q1:List Nat}{i:Nat}(h:To P f (0::q1) A H n (er P f (1::q1) K))(a1:Nat.ble (cz (aH P f p)).size i=true:=by kernel_rfl)(a2:b0 (aH P f q1)=5:=by kernel_rfl):Sg P f p i A H n (er P f q1 K):=dn (nx (sq h a2)) a1
theorem aR{i:Nat}{l:List (Nat×V)}(k:Nat)(h:K .normal (tl (iK P f p k i l)) H n)(a1:(fi P f p k i l).isSome=true:=by kernel_rfl)(a2:Nat.ble (cz (aH P f p)).size (i+k)=true:=by kernel_rfl):Sg P f p i (tl l) H n K:=go k (dn h a2) a1
theorem ex(i:Nat)(h:K (.exit i) A H n)(hk:tq (aH P f p)=some i:=by kernel_rfl):To P f p A H n K:=To.exit i hk h
end
end
end Go.Proofs.YtkimkgbppegkhaaGreat.Cm
