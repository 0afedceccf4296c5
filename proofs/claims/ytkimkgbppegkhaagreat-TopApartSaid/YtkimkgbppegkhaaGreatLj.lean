/- The clean machine's walks of looks (1): pieces lent to calls that only read them; lists of numbers; what a look has left. · The clean machine's walks of looks (2): a look's state, what is left, who is next. · The clean machine's walks of looks (3): what is left, who is next, who is heard. -/
import Derived.Test.YtkimkgbppegkhaaGreatTd
set_option linter.unusedVariables false
set_option linter.unusedSimpArgs false
namespace Go.Proofs.YtkimkgbppegkhaaGreat.Cm
open Go Go.RowKit Go.Proofs.YtkimkgbppegkhaaGreat.Gf
set_option maxRecDepth 1000000
def qb(X:Heap):List (Nat×O)→Heap
 |[]=>X
 |p::Q=>upd (qb X Q) p.1 (some p.2)
theorem aa.frzQ{X H:Heap}{n:Nat}:∀{Q M:List (Nat×O)},aa X H n (Q++M)→aa (qb X Q) H n M∧ab X (qb X Q)∧∀p∈Q,qb X Q p.1=some p.2
 |[],M,s=>⟨s,ab.rfl,fun _ h=>by cases h⟩
 |p::Q,M,s=>by
  obtain⟨s1,h1,h2⟩:=aa.frzQ (M:=p::M) (s.perm (by rw[List.cons_append];exact List.perm_middle.symm))
  obtain⟨s2,h3⟩:=s1.frz
  refine⟨s2,h1.tr h3,fun q hq=>?_⟩
  rcases List.mem_cons.1 hq with rfl | hq
  ·exact bG _ _ _
  ·exact h3 _ _ (h2 q hq)
theorem xl{Q P:List (Nat×O)}{A B:List (List (Nat×O))}:(cat (A++cat [Q,P]::B)).Perm (Q++cat (A++P::B)):=by
 rw[bT,cat,bT,cat]
 simp only[cat,List.append_nil,List.append_assoc]
 exact List.perm_append_comm_assoc ..
theorem al.borrowX{f:Nat}{args:List V}{X:Heap}{n:Nat}{Q P:List (Nat×O)}{Post:Heap→V→Heap→List (Nat×O)→Prop}(h:∀Y,ab X Y→(∀p∈Q,Y p.1=some p.2)→ap Y n→al f args Y n P (Post Y)):al f args X n (cat [Q,P]) fun v X' P'=>∃Y P2 X2,P'=cat [Q,P2]∧Post Y v X2 P2∧∀id o,Y id=none→X2 id=some o→X' id=some o:=fun A B H s=>by
 have s1:=s.perm xl
 obtain⟨s2,hm,hq⟩:=s1.frzQ
 obtain⟨v,X',H',n',P',h1,h2,h3,h4⟩:=h _ hm hq s2.topX A B H s2
 have hX:∀id,id∈Q.map (·.1)→X id=none:=fun id hid=>by
  obtain⟨p,hp,rfl⟩:=List.mem_map.1 hid
  exact(s1.own p (List.mem_append_left _ hp)).2
 have hq2:∀p∈Q,X' p.1=some p.2:=fun p hp=>h2 _ _ (hq p hp)
 have hn:=s1.nod
 rw[List.map_append,List.nodup_append]at hn
 refine⟨v,fun id=>if id∈Q.map (·.1)then none else X' id,H',n',cat [Q,P'],h1,fun id o ho=>?_,?_,_,P',X',rfl,h4,fun id o hy hx=>?_⟩
 ·show(if id∈Q.map (·.1)then none else X' id)=some o
  rw[if_neg (fun hid=>by rw[hX id hid]at ho;cases ho)]
  exact h2 _ _ (hm _ _ ho)
 ·refine aa.perm ⟨fun id o ho=>?_,h3.top,fun p hp=>?_,?_⟩ xl.symm
  ·split at ho
   ·cases ho
   ·exact h3.mono _ _ ho
  ·rcases List.mem_append.1 hp with hp | hp
   ·exact⟨h3.mono _ _ (hq2 p hp),if_pos (List.mem_map.2 ⟨p,hp,rfl⟩)⟩
   ·obtain⟨g1,g2⟩:=h3.own p hp
    refine⟨g1,?_⟩
    split
    ·rfl
    ·exact g2
  ·rw[List.map_append,List.nodup_append]
   refine⟨hn.1,h3.nod,fun a ha b hb e=>?_⟩
   subst e
   obtain⟨p,hp,rfl⟩:=List.mem_map.1 ha
   obtain⟨q,hq',e⟩:=List.mem_map.1 hb
   have:=(h3.own q hq').2
   rw[e,hq2 p hp]at this
   cases this
 ·show(if id∈Q.map (·.1)then none else X' id)=some o
  rw[if_neg fun hid=>by
   obtain⟨p,hp,rfl⟩:=List.mem_map.1 hid
   rw[hq p hp]at hy;cases hy]
  exact hx
theorem al.borrow{f:Nat}{args:List V}{X:Heap}{n:Nat}{Q P:List (Nat×O)}{Post:V→List (Nat×O)→Prop}(h:∀Y,ab X Y→(∀p∈Q,Y p.1=some p.2)→ap Y n→al f args Y n P fun v _ P'=>Post v P'):al f args X n (cat [Q,P]) fun v _ P'=>∃P2,P'=cat [Q,P2]∧Post v P2:=
 (al.borrowX (Post:=fun _ v _ P'=>Post v P') h).imp fun v X' P' h=>by
  obtain⟨Y,P2,X2,h1,h2,_⟩:=h
  exact⟨P2,h1,h2⟩
theorem bF.turn{f:Nat}{args:List V}{X:Heap}{n:Nat}{Post:V→Heap→List (Nat×O)→Prop}(h:bF f args X n Post):al f args X n [] fun v X' P'=>Post v X' P':=fun A B H s=>by
 obtain⟨v,X',H',n',M',hc,hm,s',hp⟩:=h
 have e:cat (A++[]::B)=cat (A++B):=by rw[bT,bT,cat,List.nil_append]
 rw[e]at s
 obtain⟨H2,hc2,s2⟩:=s.callA hc hm s'
 refine⟨v,X',H2,n',M',hc2,hm,s2.perm ?_,hp⟩
 exact List.perm_append_comm.trans (jQ A B M').symm
theorem bF.borrow{f:Nat}{args:List V}{X:Heap}{n:Nat}{Q:List (Nat×O)}{Post:V→List (Nat×O)→Prop}(h:∀Y,ab X Y→(∀p∈Q,Y p.1=some p.2)→ap Y n→bF f args Y n fun v _ M'=>Post v M'):al f args X n Q fun v _ P'=>∃P2,P'=cat [Q,P2]∧Post v P2:=
 (al.borrow (P:=[]) fun Y h1 h2 h3=>(h Y h1 h2 h3).turn).perm (by simp[cat])
theorem af.borrow{f:Nat}{args:List V}{X:Heap}{n:Nat}{Q:List (Nat×O)}{Post:V→Prop}(h:∀Y,ab X Y→(∀p∈Q,Y p.1=some p.2)→ap Y n→af f args Y n fun v _=>Post v):al f args X n Q fun v _ P'=>P'=Q∧Post v:=
 ((al.borrow (P:=[]) (Post:=fun v P'=>P'=[]∧Post v) fun Y h1 h2 h3=>(h Y h1 h2 h3).turn).perm (by simp[cat])).imp fun v X' P' h=>by
  obtain⟨P2,rfl,rfl,h3⟩:=h
  exact⟨by simp[cat],h3⟩
theorem af.borrowX{f:Nat}{args:List V}{X:Heap}{n:Nat}{Q:List (Nat×O)}{Post:Heap→V→Heap→Prop}(h:∀Y,ab X Y→(∀p∈Q,Y p.1=some p.2)→ap Y n→af f args Y n (Post Y)):al f args X n Q fun v X' P'=>P'=Q∧∃Y X2,Post Y v X2∧∀id o,Y id=none→X2 id=some o→X' id=some o:=
 ((al.borrowX (P:=[]) (Post:=fun Y v X2 P'=>P'=[]∧Post Y v X2) fun Y h1 h2 h3=>(h Y h1 h2 h3).turn).perm (by simp[cat])).imp fun v X' P' h=>by
  obtain⟨Y,P2,X2,rfl,⟨rfl,h3⟩,h4⟩:=h
  exact⟨by simp[cat],Y,X2,h3,h4⟩
theorem av.rowY{sz:Nat}{a:F}{fs:List F}{M:List (Nat×O)}(h:av sz a fs M){Y:Heap}(hY:∀p∈M,Y p.1=some p.2):aF Y sz a=some fs:=by
 rcases h with⟨rfl,rfl,rfl⟩|⟨k,len,cs,ex,rfl,rfl,h,rfl⟩
 ·rfl
 ·have:=hY (k,.cells cs ex) sm
  simp only at this
  simp only[aF,if_true,this]
  rw[if_pos om]
  simp
theorem uD{X:Heap}{n:Nat}{f:F}{l:List Nat}{k:Nat}(hr:bo X f l)(hlt:l.length<100000)(ht:ap X n):af 150 [vf (f),vi k] X n fun v _=>(∃i,l[i]?=some k∧v=vi i)∨(k∉l∧v=vf (.int .i64 (-1))):=by
 refine af.of_to kr ?_
 have s0:aa X X n (cat [[]]):=aa.ini ht
 have hm0:ab X X:=ab.rfl
 refine ah 1 (aP 1 (ov 7 (lv l.length ((cQ hr).trans (by simp[is]))) (ae 1 (bk 0 (lp (aC.for (l.length) (fun i A Hq nq=>∃(Y:Heap),aL A [(0,vf (f)),(1,vi k),(7,vi l.length),(8,vi i)]∧aa Y Hq nq (cat [[]])∧(ab X Y)∧(bo Y f l)∧(∀j,j<i→l[j]?≠some k)) ⟨X,az (ts:=[0,1,7,8]) kr,s0,(hm0),(hr),(fun j hj=>by omega)⟩ (fun i A H1 n2 hi hI=>?_) (fun A H1 n2 hI=>?_)))))))
 ·obtain⟨Y,hT,s3,hm0,hr,hn⟩:=hI
  refine To.keep _ ?_ hT.sub
  obtain⟨id,off,cap,rfl,hat⟩:=cW hr (by simp[is];omega)
  have hll:(is l).length=l.length:=by simp[is]
  refine ag (ov 9 (lT i l.length) (aQ (aM (nx (aD 1 (ah 2 (ai 3 (ov 14 (ix id off 1 ((is l).length) i) (ov 15 (lx id (off+i*1) (iN l[i]) (by rw[Nat.mul_one];exact(hat i _ (by simp[is,hi])).mono (s3.mono _))) ?_)))))))))
  by_cases hk:k=l[i]
  ·refine ov 16 (eT k l[i]) (aj (iT (ah 2 (rt (.inr ⟨sm,?_⟩)))))
   exact⟨.inr rfl,_,kr,Y,_,s3,hm0,.inl ⟨i,by rw[List.getElem?_eq_getElem hi,hk],rfl⟩⟩
  ·refine ov 16 (eF k l[i]) (aj (ar (nx (rg (ov 18 (aN i 1) (aR 1 ?_))))))
   exact .inl ⟨rfl,Y,az (ts:=[0,1,7,8]) kr,s3,(hm0),(hr),(fun j hj=>by
    rcases Nat.lt_or_ge j i with h | h
    ·exact hn j h
    ·rw[show j=i by omega,List.getElem?_eq_getElem hi];exact fun h=>hk (Option.some.inj h).symm)⟩
 ·obtain⟨Y,hT,s4,hm0,hr,hn⟩:=hI
  refine To.keep _ ?_ hT.sub
  refine ag (ov 9 (lF l.length l.length) (aQ (iF (xt 0 ?_))))
  refine⟨sm,?_⟩
  show To Tryz.prog 150 [1,1] _ _ _ _
  refine ah 1 (rt ?_)
  exact⟨.inr rfl,_,kr,Y,_,s4,hm0,.inr ⟨fun hk=>by
   obtain⟨i,hi,he⟩:=List.getElem_of_mem hk
   exact hn i hi (by rw[List.getElem?_eq_getElem hi,he]),rfl⟩⟩
theorem nW{X:Heap}{n:Nat}{f:F}{l:List Nat}{k:Nat}(hr:bo X f l)(hlt:l.length<100000)(ht:ap X n):af 209 [vf (f),vi k] X n fun v _=>v=vf (.bool (decide (k∈l))):=by
 refine af.of_to kr ?_
 have s0:aa X X n (cat [[]]):=aa.ini ht
 have hm0:ab X X:=ab.rfl
 obtain⟨v,X2,n2,hc,hm,ht2,hfi⟩:=(uD (k:=k) hr hlt s0.topX:af _ _ _ _ _)
 rcases hfi with⟨i,hi,rfl⟩|⟨hn,rfl⟩
 ·refine ah 1 (ai 2 ?_)
  obtain⟨_,X5,H6,n7,m8,s9,J,rfl⟩:=(af.same hc hm ht2).on s0
  have hm0:=hm0.tr m8
  refine ov 7 (J _ _) (ov 8 (hT i 0) (ax 1 ?_))
  exact⟨.inr rfl,_,kr,X5,_,s9,hm0,by rw[decide_eq_true (List.mem_of_getElem? hi)]⟩
 ·refine ah 1 (ai 2 ?_)
  obtain⟨_,W,_,_,m,s,J,rfl⟩:=(af.same hc hm ht2).on s0
  have hm0:=hm0.tr m
  refine ov 7 (J _ _) (ov 8 (au (gS .i64 (x:=(-1:Int)) (y:=(0:Int)) om)) (ax 1 ?_))
  exact⟨.inr rfl,_,kr,W,_,s,hm0,by rw[decide_eq_false hn]⟩
def dm(_:Heap)(k:Nat)(c:List F):Prop:=c=[iN k]
theorem dm.mono(X Y:Heap)(a:Nat)(c:List F)(_:ab X Y)(h:dm X a c):dm Y a c:=h
theorem wg{X:Heap}:∀{l:List Nat} {fs:List F},aA (dm X) 1 l fs→fs=is l
 |[],fs,h=>h
 |a::l,fs,h=>by
  obtain⟨c,r,rfl,_,h2,h3⟩:=h
  rw[wg h3,show c=[iN a]from h2]
  rfl
theorem yE{X:Heap}:∀(l:List Nat),aA (dm X) 1 l (is l)
 |[]=>rfl
 |a::l=>⟨[iN a],is l,rfl,rfl,rfl,yE l⟩
theorem CW{X:Heap}{n:Nat}{k len:Nat}{cs:List F}{ex:Bool}{g:Nat}{caps:List F}{l:List Nat}(p:Nat→Bool)(hlt:l.length<100000)(hgo:bX Tryz.prog g=true)(hg:∀a∈l,∀x Y m,dm Y a [x]→ab X Y→ap Y m→af g ([vf x]++caps.map fun x=>.u (.f x)) Y m fun v _=>v=vf (.bool (p a)))(hl:len*1≤cs.length)(hc:aA (dm X) 1 l (cs.take (len*1))):al 171 [vf (.sl (k) (0) 1 (len) none),.u (.fn g caps)] X n (cat [[(k,.cells (cs) ex)]]) fun v X' P'=>∃f2 fs2,v=vf f2∧av 1 f2 fs2 P'∧aA (dm X') 1 (l.filter fun a=> !p a) fs2:=by
 refine al.of_to (Ps:=[[(k,.cells (cs) ex)]]) kr fun R H0 s0=>?_
 have hm0:ab X X:=ab.rfl
 have hlen:len=l.length:=by
  have:=hc.len
  rw[List.length_take]at this
  omega
 obtain⟨fs0,hfs0⟩:∃fs0,fs0=cs.take (len*1):=⟨_,rfl⟩
 have hfl:fs0.length=len:=by rw[hfs0,List.length_take];omega
 obtain⟨v,X2,n2,hcI,hmI,htI,hfi⟩:=((rT (X:=H0) (f:=.sl k 0 1 len none) (cs:=fs0) (fun i=>(l[i]?).any p) (by
  have:=s0.at 0 rfl
  simp only[aF,if_true,this]
  rw[if_pos om,List.drop_zero,←hfs0]) om hgo (fun i x hx Y m hm ht=>by
  obtain⟨a,ha,hR⟩:=tF (by rw[hfs0];exact hc:aA (dm X) 1 l fs0) hx
  exact(hg a (List.mem_of_getElem? ha) x Y m (dm.mono _ _ _ _ (s0.mono.tr hm) hR) (s0.mono.tr hm) ht).imp fun v _ h=>by rw[h,ha];rfl) s0.top):af _ _ _ _ _)
 rcases hfi with⟨i,hi,hpI,hn,rfl⟩|⟨hn,rfl⟩
 ·refine ah 1 (ai 2 ?_)
  obtain⟨_,_,_,hc146,hm147,ht148,rfl⟩:=(af.same hcI hmI htI:af 218 [vf (.sl (k) (0) 1 (len) none),.u (.fn g caps)] H0 (n) _)
  have s:=s0.callH hc146 hm147 ht148
  refine ov 10 (jC hc146) (ae 1 (aP 1 (ov 12 (au (jc .i64 (x:=((i:Nat):Int)) (y:=(-1:Int)) om)) (aj ?_))))
  have hi2:i<len:=by omega
  obtain⟨a0,ha0⟩:∃a,l[i]?=some a:=⟨_,List.getElem?_eq_getElem om⟩
  have hp0:p a0=true:=by simpa[ha0]using hpI
  have hall:(l.take i).filter (fun a=> !p a)=l.take i:=nI hn
  refine ar (nx (aP 1 (ov 15 (aN i 1) (ae 1 (bk 0 (lp (aC.for (len-(i+1)) (fun q A Hq nq=>∃(Y:Heap) (w:Nat) (cs2:List F),aL A [(0,vf (.sl (k) (0) 1 (len) none)),(1,.u (.fn g caps)),(5,vi w),(6,vi (i+1+q))]∧aa Y Hq nq (cat [[(k,.cells (cs2) ex)],R])∧(ab X Y)∧(((l.take (i+1+q)).filter fun a=> !p a).length=w)∧(cs2.length=cs.length)∧(aA (dm Y) 1 ((l.take (i+1+q)).filter fun a=> !p a) (cs2.take (w*1)))∧(cs2.drop ((i+1+q)*1)=cs.drop ((i+1+q)*1))∧(aA (dm Y) 1 l (cs.take (len*1)))) ⟨X,i,cs,az (ts:=[0,1,5,6]) kr,s,(hm0),(by rw[show l.take (i+1+0)=l.take i++[a0]from bU ha0,List.filter_append,hall];simp[hp0];omega),(rfl),(by rw[show l.take (i+1+0)=l.take i++[a0]from bU ha0,List.filter_append,hall];simpa[hp0]using rS hc hi2),(rfl),(hc)⟩ (fun q A H n1 hi hI=>?_) (fun A H n1 hI=>?_))))))))
  ·obtain⟨Y,w,cs2,hT,s,hm0,hw,hl2,hpre,hsuf,hc⟩:=hI
   refine To.keep _ ?_ hT.sub
   obtain⟨a,hx⟩:∃a,l[i+1+q]?=some a:=⟨_,List.getElem?_eq_getElem om⟩
   obtain⟨c,hc1,hcl,hR⟩:=hc.at hx
   have htk:l.take (i+1+(q+1))=l.take (i+1+q)++[a]:=bU hx
   have hcj:(cs2.drop ((i+1+q)*1)).take 1=c:=by rw[hsuf,←hc1];exact kE om
   have hwle:w≤i+1+q:=by rw[←hw];exact Nat.le_trans (List.length_filter_le _ _) (by rw[List.length_take];omega)
   obtain⟨x,rfl⟩:∃x,c=[x]:=List.length_eq_one_iff.1 hcl
   have hxj:cs2[(i+1+q)*1]?=some x:=by have:=congrArg (fun l=>l[0]?) hcj;simpa[List.getElem?_take,List.getElem?_drop]using this
   refine aP 2 (ov 18 (ln len) (ov 19 (lT (i+1+q) len) (aj (aM (nx (aD 1 (ai 2 (ov 24 (ix k 0 1 len (i+1+q)) (ov 25 (am (id:=k) (off:=0+(i+1+q)*1) (x:=x) (s.at 0 rfl) (by rw[Nat.zero_add];exact hxj)) ?_)))))))))
   cases hp:p a
   ·refine ae 1 (ai 2 ?_)
    obtain⟨_,W,_,_,m1,s,J,rfl⟩:=(((hg a (List.mem_of_getElem? hx) x _ _ hR hm0 s.topX).imp fun v _ h=>(h.trans (by rw[hp]):v=vf (.bool false))):af g ([vf (x)]++caps.map fun x=>.u (.f x)) Y (n1) _).on s
    have hm0:=hm0.tr m1
    have hpre:=hpre.mono fun _ _ h=>dm.mono _ _ _ _ m1 h
    have hc:=hc.mono fun _ _ h=>dm.mono _ _ _ _ m1 h
    have hR:=dm.mono _ _ _ _ m1 hR
    refine ov 28 (J _ _ kr hgo) (ae 1 (iT (ai 3 (ov 33 (ix k 0 1 len w) ?_))))
    obtain⟨_,s,J⟩:=nc (sz:=1) (off:=0+w*1) (new:=[x]) (cs':=aJ cs2 (w*1) [x]) s 0 rfl rfl om (by rw[Nat.zero_add])
    refine oe (J _ _) (aj ?_)
    obtain⟨hl3,hpre3,hsuf3⟩:=rR (sz:=1) (j:=i+1+q) (len:=len) hwle hcl om hl2 hpre hR hsuf om
    refine rg (go 1 (ov 35 (aN w 1) (ae 1 (rg (go 1 (ov 21 (aN (i+1+q) 1) (aR 1 ?_)))))))
    exact .inl ⟨rfl,W,w+1,_,az (ts:=[0,1,5,6]) kr,s,(hm0),(by rw[htk,List.filter_append,List.length_append,hw];simp[hp]),(hl3),(by rw[htk,List.filter_append];simpa[hp]using hpre3),(hsuf3),(hc)⟩
   ·refine ae 1 (ai 2 ?_)
    obtain⟨_,W,_,_,m2,s,J,rfl⟩:=(((hg a (List.mem_of_getElem? hx) x _ _ hR hm0 s.topX).imp fun v _ h=>(h.trans (by rw[hp]):v=vf (.bool true))):af g ([vf (x)]++caps.map fun x=>.u (.f x)) Y (n1) _).on s
    have hm0:=hm0.tr m2
    have hpre:=hpre.mono fun _ _ h=>dm.mono _ _ _ _ m2 h
    have hc:=hc.mono fun _ _ h=>dm.mono _ _ _ _ m2 h
    refine ov 28 (J _ _ kr hgo) (ae 1 (ar (nx (rg (go 1 (ov 21 (aN (i+1+q) 1) (aR 1 ?_)))))))
    exact .inl ⟨rfl,W,w,cs2,az (ts:=[0,1,5,6]) kr,s,(hm0),(by rw[htk,List.filter_append,List.length_append,hw];simp[hp]),(hl2),(by rw[htk,List.filter_append];simpa[hp]using hpre),(by have:=congrArg (List.drop 1) hsuf;simpa[List.drop_drop,Nat.add_mul,Nat.add_assoc]using this),(hc)⟩
  ·obtain⟨Y,w,cs2,hT,s,hm0,hw,hl2,hpre,hsuf,hc⟩:=hI
   refine To.keep _ ?_ hT.sub
   refine aP 2 (ov 18 (ln len) (ov 19 (lF (i+1+(len-(i+1))) len) (aj ?_)))
   have hjl:i+1+(len-(i+1))=l.length:=by omega
   rw[hjl,List.take_length]at hw hpre
   have hwle:w≤len:=by rw[←hw,hlen];exact List.length_filter_le _ _
   refine iF (xt 0 ?_)
   refine⟨sm,?_⟩
   show To Tryz.prog 171 [1,1,1,1] _ _ _ _
   refine ai 2 (ov 38 (c7 (id:=k) (off:=0) (sz:=1) (len:=len) (L:=cs2.length) (l:=w) (h:=len) (cap:=none) (lo:=some w) (hi:=none) (by rw[s.at 0 rfl];rfl) rfl rfl om om (fun c h=>nomatch h) om) ?_)
   obtain⟨_,cs4,hl4,hc4,s,J⟩:=mY (off:=0+w*1) (len:=len-w) (sz:=1) (cap:=none) (tz 3) s 0 rfl om
   refine oe (J _ _) (aj (ai 2 (ov 41 (c7 (id:=k) (off:=0) (sz:=1) (len:=len) (L:=cs4.length) (l:=0) (h:=w) (cap:=none) (lo:=none) (hi:=some w) (by rw[s.at 0 rfl];rfl) rfl rfl om om (fun c h=>nomatch h) om) (ax 1 ?_))))
   rw[Nat.zero_add]at hc4
   exact⟨.inr rfl,vf (.sl k 0 1 w none),kr,Y,_,aa.fin (Ps:=[_]) s,hm0,.sl k 0 1 w none,_,rfl,.inr ⟨k,w,cs4,ex,rfl,rfl,om,rfl⟩,by rw[hc4];exact hpre⟩
 ·refine ah 1 (ai 2 ?_)
  obtain⟨_,_,_,hc174,hm175,ht176,rfl⟩:=(af.same hcI hmI htI:af 218 [vf (.sl (k) (0) 1 (len) none),.u (.fn g caps)] H0 (n) _)
  have s:=s0.callH hc174 hm175 ht176
  refine ov 10 (jC hc174) (ae 1 (aP 1 (ov 12 (au (gR .i64 (x:=(-1:Int)) (y:=(-1:Int)) om)) (aj (iT (ah 2 (rt ?_)))))))
  exact⟨.inr rfl,vf (.sl k 0 1 len none),kr,X,_,aa.fin (Ps:=[_]) s,hm0,_,_,rfl,.inr ⟨k,len,cs,ex,rfl,rfl,hl,rfl⟩,by rw[qH (by rw[←hlen];exact fun i hi=>hn i om)];exact hc⟩
theorem CJ{X:Heap}{n:Nat}{g:Nat}{caps:List F}(p:Nat→Bool)(hgo:bX Tryz.prog g=true):al 171 [vf (.sl0),.u (.fn g caps)] X n ([]) fun v _ P'=>v=vf .sl0∧P'=[]:=by
 refine al.of_to (Ps:=[[]]) kr fun R H0 s0=>?_
 have hm0:ab X X:=ab.rfl
 refine ah 1 (ai 2 ?_)
 obtain⟨_,_,_,hc180,hm181,ht182,rfl⟩:=(((rT (X:=H0) (f:=.sl0) (cs:=[]) (fun i=>false) rfl sm hgo (fun i x hx=>by simp at hx) s0.top):af _ _ _ _ _).imp fun v _ h=>(by rcases h with⟨i,hi,_⟩|⟨_,h⟩;exact absurd hi sm;exact h:v=vf (.int .i64 (-1))):af 218 [vf (.sl0),.u (.fn g caps)] H0 (n) _)
 have s:=s0.callH hc180 hm181 ht182
 refine ov 10 (jC hc180) (ae 1 (aP 1 (ov 12 (au (gR .i64 (x:=(-1:Int)) (y:=(-1:Int)) om)) (aj (iT (ah 2 (rt ?_)))))))
 exact⟨.inr rfl,_,kr,X,_,aa.fin (Ps:=[_]) s,hm0,rfl,rfl⟩
theorem Gt{X:Heap}{n:Nat}{f:F}{fs:List F}{P0:List (Nat×O)}{g:Nat}{caps:List F}{l:List Nat}(p:Nat→Bool)(hlt:l.length<100000)(hgo:bX Tryz.prog g=true)(hg:∀a∈l,∀x Y m,dm Y a [x]→ab X Y→ap Y m→af g ([vf x]++caps.map fun x=>.u (.f x)) Y m fun v _=>v=vf (.bool (p a)))(ho:av 1 f fs P0)(hc:aA (dm X) 1 l fs):al 171 [vf f,.u (.fn g caps)] X n P0 fun v X' P'=>∃f2 fs2,v=vf f2∧av 1 f2 fs2 P'∧aA (dm X') 1 (l.filter fun a=> !p a) fs2:=by
 rcases ho with⟨rfl,rfl,rfl⟩|⟨k,len,cs,ex,rfl,rfl,hl,rfl⟩
 ·have hl0:l=[]:=List.eq_nil_of_length_eq_zero (by have:=hc.len;simp at this;omega)
  subst hl0
  refine(CJ p hgo).imp fun v X' P' h=>?_
  obtain⟨rfl,rfl⟩:=h
  exact⟨.sl0,[],rfl,av.nil _,rfl⟩
 ·exact CW p hlt hgo hg hl hc
theorem ru{X:Heap}{n:Nat}{f:F}{l:List Nat}{P0:List (Nat×O)}{g:Nat}{caps:List F}(p:Nat→Bool)(ho:av 1 f (is l) P0)(hlt:l.length<100000)(hgo:bX Tryz.prog g=true)(hg:∀a∈l,∀Y m,ab X Y→ap Y m→af g ([vi a]++caps.map fun x=>.u (.f x)) Y m fun v _=>v=vf (.bool (p a))):al 171 [vf f,.u (.fn g caps)] X n P0 fun v _ P'=>∃f2,v=vf f2∧av 1 f2 (is (l.filter fun a=> !p a)) P':=
 (Gt p hlt hgo (fun a ha x Y m hR hm ht=>by
  cases(show[x]=[iN a]from hR)
  exact hg a ha Y m hm ht) ho (yE l)).imp fun v X' P' h=>by
  obtain⟨f2,fs2,h1,h2,h3⟩:=h
  exact⟨f2,h1,by rw[←wg h3];exact h2⟩
/-- a look: whom it knows, whom it asked, who has not answered yet -/
def eY(lid self:Nat)(kn ak opn:List Nat)(P:List (Nat×O)):Prop:=∃c fk fa fo Pk Pa Po,dj c∧P=cat [[(lid,.cells (c++[iN self,fk,fa,fo]) true)],Pk,Pa,Po]∧av 1 fk (is kn) Pk∧av 1 fa (is ak) Pa∧av 1 fo (is opn) Po
/-- a look as one that only reads sees it -/
def i4(Y:Heap)(lid:Nat)(kn ak opn:List Nat):Prop:=∃c self fk fa fo,dj c∧Y lid=some (.cells (c++[iN self,fk,fa,fo]) true)∧bo Y fk kn∧bo Y fa ak∧bo Y fo opn
theorem eY.frz{lid self:Nat}{kn ak opn:List Nat}{P:List (Nat×O)}(h:eY lid self kn ak opn P){Y:Heap}(hY:∀p∈P,Y p.1=some p.2):i4 Y lid kn ak opn:=by
 obtain⟨c,fk,fa,fo,Pk,Pa,Po,hc,rfl,h1,h2,h3⟩:=h
 exact⟨c,self,fk,fa,fo,hc,hY (lid,_) (by simp[cat]),h1.rowY fun p hp=>hY p (by simp[cat,hp]),h2.rowY fun p hp=>hY p (by simp[cat,hp]),h3.rowY fun p hp=>hY p (by simp[cat,hp])⟩
theorem i4.mono{X Y:Heap}{lid:Nat}{kn ak opn:List Nat}(h:i4 X lid kn ak opn)(hm:ab X Y):i4 Y lid kn ak opn:=by
 obtain⟨c,self,fk,fa,fo,hc,h0,h1,h2,h3⟩:=h
 exact⟨c,self,fk,fa,fo,hc,hm _ _ h0,h1.mono hm,h2.mono hm,h3.mono hm⟩
theorem gi{c l:List F}(h:c.length=20)(i:Nat):(c++l)[20+i]?=l[i]?:=by
 rw[List.getElem?_append_right om,h,Nat.add_sub_cancel_left]
theorem pc{c l:List F}{x:F}(h:c.length=20)(i:Nat)(hi:i<l.length):aJ (c++l) (20+i) [x]=c++l.set i x:=by
 rw[mf (by rw[List.length_append];omega),List.set_append_right _ _ om,h,Nat.add_sub_cancel_left]
theorem wv{H:Heap}{f:F}(h:aF H 1 f=some []):f=.sl0∨∃id off cap,f=.sl id off 1 0 cap:=by
 cases f with
 |sl0=>exact .inl rfl
 |sl id off sz len cap=>
  obtain⟨rfl,h1,_⟩:=dG h
  have:len=0:=by simpa using h1.symm
  subst this
  exact .inr ⟨id,off,cap,rfl⟩
 |_=>simp[aF]at h
theorem Bs{X:Heap}{n:Nat}{f:F}{l:List Nat}(hr:bo X f l)(hlt:l.length<100000)(ht:ap X n):bF 220 [vf (f)] X n fun v _ M'=>∃g,v=vf g∧av 1 g (is l) M':=by
 refine bF.of_to kr ?_
 have s0:aa X X n (cat [[]]):=aa.ini ht
 have hm0:ab X X:=ab.rfl
 rcases Nat.eq_zero_or_pos l.length with h0 | h0
 ·obtain rfl:=List.eq_nil_of_length_eq_zero h0
  rcases wv hr with rfl | ⟨id,off,cap,rfl⟩
  ·refine ah 1 (sq (ah 2 (iT (ah 1 (rt ?_)))))
   exact⟨.inr rfl,_,kr,X,_,s0,hm0,.sl0,rfl,.inl ⟨rfl,rfl,rfl⟩⟩
  ·refine ah 1 (sq (ah 2 (ar (nx (ag ?_)))))
   obtain⟨_,s,J⟩:=ay s0 (.cells [] true)
   refine ov 5 (J _ _ (vf (.sl (n) (0) 1 (0) none))) (go 1 ?_)
   obtain⟨_,s,J⟩:=qm (sz:=1) (bytes:=8) (len:=0) (m:=0) (x:=.sl (id) (off) 1 (0) cap) (new:=[]) (cs':=[]) s 0 rfl (aO s.mono hr) (rfl) om om om rfl
   refine ov 7 (J _ _) (ax 1 ?_)
   exact⟨.inr rfl,vf (.sl n 0 1 (0+0) none),kr,X,_,s,hm0,_,rfl,.inr ⟨n,0,[],true,rfl,rfl,sm,rfl⟩⟩
 ·obtain⟨id,off,cap,rfl,hat⟩:=cW hr (by simp[is];omega)
  have hil:=dI l
  refine ah 1 (sq (ah 2 (ar (nx (ag ?_)))))
  obtain⟨_,s,J⟩:=ay s0 (.cells [] true)
  refine ov 5 (J _ _ (vf (.sl (n) (0) 1 (0) none))) (go 1 ?_)
  obtain⟨_,s,J⟩:=pY (sz:=1) (bytes:=8) (m:=(is l).length) (x:=.sl (id) (off) 1 ((is l).length) cap) (new:=is l) s (s.at 0 rfl) (aO s.mono hr) (rfl) om om om
  refine ov 7 (J _ _) (ax 1 ?_)
  exact⟨.inr rfl,_,kr,X,_,s.sub (List.Sublist.cons_cons _ (List.Sublist.cons _ (List.Sublist.refl _))),hm0,_,rfl,.inr ⟨n+1,(is l).length,is l,false,rfl,rfl,om,by rw[Nat.mul_one,List.take_length]⟩⟩
def leftL(kn ak:List Nat):List Nat:=kn.filter fun a=> !decide (a∈ak)
theorem aa.nilM{X H:Heap}{n:Nat}{M:List (Nat×O)}(s:aa X H n M):aa X H n []:=s.sub (List.nil_sublist _)
theorem CM{X:Heap}{n:Nat}{lid b k:Nat}{kn ak opn:List Nat}(hb:X b=some (.cells [.ptr lid 0] true))(hl:i4 X lid kn ak opn)(hlt:ak.length<100000)(ht:ap X n):af 221 [vi k,vf (.ptr (b) (0))] X n fun v _=>v=vf (.bool (decide (k∈ak))):=by
 refine af.of_to kr ?_
 have s0:aa X X n (cat [[]]):=aa.ini ht
 have hm0:ab X X:=ab.rfl
 obtain⟨c,self,fk,fa,fo,hc,h0,hk,ha,ho⟩:=hl
 refine ah 1 (ag (ov 4 (ld 0 (s0.mono _ _ hb) rfl) (go 2 (ov 7 (am (id:=lid) (off:=22) (x:=fa) (s0.mono _ _ h0) (gi hc.len 2)) (go 1 ?_)))))
 obtain⟨_,W,_,_,m,s,J,rfl⟩:=(nW (k:=k) ha hlt s0.topX).on s0
 have hm0:=hm0.tr m
 refine ov 9 (J _ _) (ax 1 ?_)
 exact⟨.inr rfl,_,kr,W,_,s,hm0,rfl⟩
theorem vX{X:Heap}{n:Nat}{lid:Nat}{kn ak opn:List Nat}(hl:i4 X lid kn ak opn)(hlk:kn.length<100000)(hlt:ak.length<100000)(ht:ap X n):bF 176 [vf (.ptr (lid) (0))] X n fun v _ M'=>∃g,v=vf g∧av 1 g (is (leftL kn ak)) M':=by
 refine bF.of_to kr ?_
 have s0:aa X X n (cat [[]]):=aa.ini ht
 have hm0:ab X X:=ab.rfl
 have hl2:=hl
 obtain⟨c,self,fk,fa,fo,hc,h0,hk,ha,ho⟩:=hl
 skip
 refine ag ?_
 obtain⟨_,s,J⟩:=ay s0 (.cells [.ptr (lid) (0)] true)
 refine ov 1 (J _ _ (vf (.ptr (n) (0)))) (ae 1 (ag ?_))
 obtain⟨_,m1,s,f1⟩:=aa.frzC s
 have h0:=m1 _ _ h0
 have hk:=hk.mono m1
 have hbx:=f1
 refine ov 3 (ld 0 (s.mono _ _ f1) rfl) (go 2 (ov 6 (am (id:=lid) (off:=21) (x:=fk) (s.mono _ _ h0) (gi hc.len 1)) ?_))
 obtain⟨_,_,_,_,Pg,m2,s,J,⟨g,rfl,hg⟩⟩:=(Bs (f:=fk) hk hlk s.topX).on s
 have hl2:=hl2.mono (m1.tr m2)
 have hbx:=m2 _ _ hbx
 refine ov 7 (J _ _) (go 1 ?_)
 obtain⟨_,W,_,_,Pf,m3,s,J,⟨f2,rfl,hf2⟩⟩:=(ru (f:=g) (g:=221) (caps:=[.ptr n 0]) (fun a=>decide (a∈ak)) hg hlk kr fun a _ Y m hm ht=>CM (hm _ _ hbx) (hl2.mono hm) hlt ht).on [_] [] s
 have hm0:=hm0.tr (m1.tr (m2.tr m3))
 refine ov 9 (J _ _) (ax 1 ?_)
 exact⟨.inr rfl,_,kr,W,_,aa.out0 s,hm0,f2,rfl,yo hf2⟩
theorem Cg{X:Heap}{n:Nat}{lid:Nat}{kn ak opn:List Nat}(hl:i4 X lid kn ak opn)(ht:ap X n):af 158 [vf (.ptr (lid) (0))] X n fun v _=>v=vi opn.length:=by
 refine af.of_to kr ?_
 have s0:aa X X n (cat [[]]):=aa.ini ht
 have hm0:ab X X:=ab.rfl
 obtain⟨c,self,fk,fa,fo,hc,h0,hk,ha,ho⟩:=hl
 refine ah 1 (ai 3 (ov 6 (am (id:=lid) (off:=23) (x:=fo) (s0.mono _ _ h0) (gi hc.len 3)) (ov 7 (lv opn.length ho.lenA) (ax 1 ?_))))
 exact⟨.inr rfl,_,kr,X,_,s0,hm0,rfl⟩
theorem qW{X:Heap}{n:Nat}{lid:Nat}{kn ak opn:List Nat}(hl:i4 X lid kn ak opn)(hlk:kn.length<100000)(hlt:ak.length<100000)(ht:ap X n):bF 124 [vf (.ptr (lid) (0))] X n fun v _ M'=>v=vf (.bool (decide (opn=[]∧leftL kn ak=[])))∧M'=[]:=by
 refine bF.of_to kr ?_
 have s0:aa X X n (cat [[]]):=aa.ini ht
 have hm0:ab X X:=ab.rfl
 have hl2:=hl
 obtain⟨c,self,fk,fa,fo,hc,hy,hk,ha,ho⟩:=hl
 refine ah 1 (ai 6 (ov 9 (am (id:=lid) (off:=23) (x:=fo) (s0.mono _ _ hy) (gi hc.len 3)) (ov 10 (lv opn.length ho.lenA) ?_)))
 rcases Nat.eq_zero_or_pos opn.length with h0 | h0
 ·refine ov 11 (eT opn.length 0) (go 2 ?_)
  obtain⟨_,W,_,_,Pg,m,s,J,⟨g,rfl,hg⟩⟩:=(vX hl2 hlk hlt s0.topX).on s0
  have hm0:=hm0.tr m
  have hy:=m _ _ hy
  refine ov 14 (J _ _) ?_
  have hil:=dI (leftL kn ak)
  refine ov 15 (lv ((leftL kn ak).length) (hg.lenA (l:=(leftL kn ak).length) om om)) ?_
  rcases Nat.eq_zero_or_pos (leftL kn ak).length with h1 | h1
  ·refine ov 16 (eT ((leftL kn ak).length) 0) (ax 3 ?_)
   exact⟨.inr rfl,_,kr,W,_,s.nilM,hm0,by rw[decide_eq_true ⟨List.eq_nil_of_length_eq_zero h0,List.eq_nil_of_length_eq_zero h1⟩],rfl⟩
  ·refine ov 16 (eF ((leftL kn ak).length) 0) (ax 3 ?_)
   exact⟨.inr rfl,_,kr,W,_,s.nilM,hm0,by rw[decide_eq_false fun h=>by rw[h.2]at h1;cases h1],rfl⟩
 ·refine ov 11 (eF opn.length 0) (ax 8 ?_)
  exact⟨.inr rfl,_,kr,X,_,s0.nilM,hm0,by rw[decide_eq_false fun h=>by rw[h.1]at h0;cases h0],rfl⟩
theorem BU{X:Heap}{n:Nat}{b k a:Nat}(hb:X b=some (.cells [iN k] true))(ht:ap X n):af 172 [vi a,vf (.ptr (b) (0))] X n fun v _=>v=vf (.bool (decide (a=k))):=by
 refine af.of_to kr ?_
 have s0:aa X X n (cat [[]]):=aa.ini ht
 have hm0:ab X X:=ab.rfl
 by_cases hq:a=k
 ·refine ah 1 (ai 1 (ov 5 (ld 0 (s0.mono _ _ hb) rfl) (ov 6 (eT a k) (ax 1 ?_))))
  exact⟨.inr rfl,_,kr,X,_,s0,hm0,by rw[decide_eq_true hq]⟩
 ·refine ah 1 (ai 1 (ov 5 (ld 0 (s0.mono _ _ hb) rfl) (ov 6 (eF a k) (ax 1 ?_))))
  exact⟨.inr rfl,_,kr,X,_,s0,hm0,by rw[decide_eq_false hq]⟩
theorem Dt{X:Heap}{n:Nat}{lid self:Nat}{kn ak opn:List Nat}{P0:List (Nat×O)}(hlv:eY lid self kn ak opn P0){k:Nat}(hlt:opn.length<100000):al 122 [vf (.ptr (lid) (0)),vi k] X n (P0) fun v _ P'=>v=.tup []∧eY lid self kn ak (opn.filter fun a=> !decide (a=k)) P':=by
 obtain⟨c,fk,fa,fo,Pk,Pa,Po,hc,rfl,hk,ha,ho⟩:=hlv
 refine al.of_to (Ps:=[[(lid,.cells (c++[iN self,fk,fa,fo]) true)],Pk,Pa,Po]) kr fun R H0 s0=>?_
 have hm0:ab X X:=ab.rfl
 refine ag ?_
 obtain⟨_,s,J⟩:=ay s0 (.cells [iN k] true)
 refine ov 3 (J _ _ (vf (.ptr (n) (0)))) (aj (ah 2 (iT (rg ?_))))
 obtain⟨_,m1,s,f1⟩:=aa.frzC s
 have hbx:=f1
 refine go 4 (ov 10 (am (id:=lid) (off:=23) (x:=fo) (s.at 0 rfl) (gi hc.len 3)) (go 1 ?_))
 obtain⟨_,W,_,_,Po2,m2,s,J,⟨f2,rfl,hf2⟩⟩:=(ru (f:=fo) (g:=172) (caps:=[.ptr n 0]) (fun a=>decide (a=k)) ho hlt kr fun a _ Y m hm ht=>BU (hm _ _ hbx) ht).on [_,_,_] [_] s
 have hm0:=hm0.tr (m1.tr m2)
 refine ov 12 (J _ _) (go 2 ?_)
 obtain⟨_,s,J⟩:=aI (off:=23) (new:=[f2]) (cs':=c++[iN self,fk,fa,f2]) s 0 rfl (by simp[hc.len]) (pc hc.len 3 sm)
 refine oe (J _ _) (dn ?_)
 exact⟨.inl rfl,_,kr,W,_,aa.fin (Ps:=[_,_,_,_]) s,hm0,rfl,c,fk,fa,f2,Pk,Pa,Po2,hc,rfl,hk,ha,hf2⟩
/-- whom it knows then -/
def jy(self:Nat)(s:List Nat)(k:Nat):List Nat:=if k≠self∧k∉s then s++[k]else s
def bE(self:Nat)(kn more:List Nat):List Nat:=more.foldl (jy self) kn
theorem rM(self:Nat)(kn more:List Nat)(k:Nat):bE self kn (more++[k])=if k≠self∧k∉bE self kn more then bE self kn more++[k]else bE self kn more:=by
 rw[bE,List.foldl_append];rfl
theorem oP(self:Nat):∀(kn more:List Nat),(bE self kn more).length≤kn.length+more.length
 |kn,[]=>by simp[bE]
 |kn,k::more=>by
  have:=oP self (jy self kn k) more
  have h2:(jy self kn k).length≤kn.length+1:=by unfold jy; split<;>simp
  show(bE self (jy self kn k) more).length≤_
  rw[List.length_cons];omega
theorem v9{X:Heap}{n:Nat}{lid self:Nat}{kn ak opn:List Nat}{P0:List (Nat×O)}(hlv:eY lid self kn ak opn P0){f:F}{more:List Nat}(hr:bo X f more)(hlk:kn.length<1000)(hlm:more.length<1000):al 152 [vf (.ptr (lid) (0)),vf (f)] X n (P0) fun v _ P'=>v=.tup []∧eY lid self (bE self kn more) ak opn P':=by
 obtain⟨c,fk,fa,fo,Pk,Pa,Po,hc,rfl,hk,ha,ho⟩:=hlv
 refine al.of_to (Ps:=[[(lid,.cells (c++[iN self,fk,fa,fo]) true)],Pk,Pa,Po]) kr fun R H0 s0=>?_
 have hm0:ab X X:=ab.rfl
 refine ai 1 (ov 7 (lv more.length ((cQ hr).trans (by simp[is]))) (ae 1 (bk 0 (lp (aC.for (more.length) (fun i A Hq nq=>∃(Y:Heap) (fk2:F) (Pk2:List (Nat×O)),aL A [(0,vf (.ptr (lid) (0))),(6,vf (f)),(7,vi more.length),(8,vi i)]∧aa Y Hq nq (cat [[(lid,.cells (c++[iN self,fk2,fa,fo]) true)],Pk2,Pa,Po,R])∧(ab X Y)∧(bo Y f more)∧(av 1 fk2 (is (bE self kn (more.take i))) Pk2)) ⟨X,fk,Pk,az (ts:=[0,6,7,8]) kr,s0,(hm0),(hr),(hk)⟩ (fun i A H n1 hi hI=>?_) (fun A H n1 hI=>?_))))))
 ·obtain⟨Y,fk2,Pk2,qA,s,hm0,hr,hk⟩:=hI
  refine To.keep _ ?_ qA.sub
  obtain⟨id,off,cap,rfl,hat⟩:=cW hr (by simp[is];omega)
  have hll:(is more).length=more.length:=by simp[is]
  have hkl:=dI (bE self kn (more.take i))
  have hkb:=oP self kn (more.take i)
  rw[List.length_take]at hkb
  refine ag (ov 9 (lT i more.length) (aQ (aM (nx (aD 1 (ag (ov 10 (ix id off 1 ((is more).length) i) (ov 11 (lx id (off+i*1) (iN more[i]) (by rw[Nat.mul_one];exact(hat i _ (by simp[is,hi])).mono (s.mono _))) (ae 1 (ai 1 (ov 13 (hT more[i] 0) (go 5 (ov 19 (am (id:=lid) (off:=20) (x:=iN self) (s.at 0 rfl) (gi hc.len 0)) ?_)))))))))))))
  by_cases hs:more[i]=self
  ·refine ov 20 (uF more[i] self) (ae 10 (ar (nx (rg (ov 41 (aN i 1) (aR 1 ?_))))))
   exact .inl ⟨rfl,Y,_,_,az (ts:=[0,6,7,8]) kr,s,(hm0),(hr),(by rw[bU (List.getElem?_eq_getElem hi),rM,if_neg (fun h=>h.1 hs)];exact hk)⟩
  ·refine ov 20 (uT more[i] self) (go 5 (ov 26 (am (id:=lid) (off:=21) (x:=fk2) (s.at 0 rfl) (gi hc.len 1)) ?_))
   by_cases hin:more[i]∈bE self kn (more.take i)
   ·refine go 1 ?_
    obtain⟨_,X1,_,_,Pk2,m,s1,J,⟨rfl,rfl⟩⟩:=((af.borrow (Q:=Pk2) (Post:=fun v=>v=vf (.bool true)) fun Y h1 h2 h3=>(nW (k:=more[i]) (hk.rowY h2) om h3).imp (Post':=fun v _=>v=vf (.bool true)) fun v _ h=>by rw[h,decide_eq_true hin])).on [_] [_,_,_] s
    have hm0:=hm0.tr m
    have hr:=aO m hr
    refine ov 28 (J _ _) (ae 2 (ar (nx (rg (ov 41 (aN i 1) (aR 1 ?_))))))
    exact .inl ⟨rfl,X1,_,_,az (ts:=[0,6,7,8]) kr,s1,(hm0),(hr),(by rw[bU (List.getElem?_eq_getElem hi),rM,if_neg (fun h=>h.2 hin)];exact hk)⟩
   ·refine go 1 ?_
    obtain⟨_,_,_,n2,Pk2,m1,s2,J1,⟨rfl,rfl⟩⟩:=((af.borrow (Q:=Pk2) (Post:=fun v=>v=vf (.bool false)) fun Y h1 h2 h3=>(nW (k:=more[i]) (hk.rowY h2) om h3).imp (Post':=fun v _=>v=vf (.bool false)) fun v _ h=>by rw[h,decide_eq_false hin])).on [_] [_,_,_] s
    refine ov 28 (J1 _ _) (ae 2 (iT (rg (go 4 (ov 35 (am (id:=lid) (off:=21) (x:=fk2) (s2.at 0 rfl) (gi hc.len 1)) (go 1 ?_))))))
    obtain⟨X2,_,s3,m2,f1,J2⟩:=bj s2 (.cells [iN more[i]] true)
    have hm0:=hm0.tr (m1.tr m2)
    have hr:=aO (m1.tr m2) hr
    refine ov 37 (J2 _ _ (vf (.sl (n2) (0) 1 (1) none))) ?_
    obtain⟨a,_,_,_,ho222,s4,J3⟩:=b6 (sz:=1) (bytes:=8) (x:=.sl (n2) (0) 1 (1) none) (new:=[iN more[i]]) [_] [_,_,_] s3 (hk) (bf (s3.mono _ _ f1) rfl) (rfl) om om
    refine ov 38 (J3 _ _) (go 2 ?_)
    obtain⟨_,s5,J4⟩:=aI (off:=21) (new:=[a]) (cs':=c++[iN self,a,fa,fo]) s4 0 rfl (by simp[hc.len]) (pc hc.len 1 sm)
    refine oe (J4 _ _) (aj (rg (ov 41 (aN i 1) (aR 1 ?_))))
    exact .inl ⟨rfl,X2,_,_,az (ts:=[0,6,7,8]) kr,s5,(hm0),(hr),(by rw[bU (List.getElem?_eq_getElem hi),rM,if_pos ⟨hs,hin⟩,li];exact ho222)⟩
 ·obtain⟨Y,fk2,Pk2,qA,s6,hm0,hr,hk⟩:=hI
  refine To.keep _ ?_ qA.sub
  refine ag (ov 9 (lF more.length more.length) (aQ (iF (xt 0 ?_))))
  refine⟨sm,?_⟩
  exact⟨.inl rfl,_,kr,Y,_,aa.fin (Ps:=[_,_,_,_]) s6,hm0,rfl,c,fk2,fa,fo,Pk2,Pa,Po,hc,rfl,by rw[List.take_length]at hk;exact hk,ha,ho⟩
end Go.Proofs.YtkimkgbppegkhaaGreat.Cm
