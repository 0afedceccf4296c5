/- The clean machine's walks of tables (3): contacts sorted. · The clean machine's walks of tables (4): all contacts, the nearest ones, a table made. -/
import Derived.Test.YtkimkgbppegkhaaGreatTb
set_option linter.unusedVariables false
set_option linter.unusedSimpArgs false
namespace Go.Proofs.YtkimkgbppegkhaaGreat.Cm
open Go Go.RowKit Go.Proofs.YtkimkgbppegkhaaGreat.Gf
set_option maxRecDepth 1000000
theorem aA.atL{α:Type}{R:α→List F→Prop}{sz len i:Nat}{l:List α}{cs:List F}{a:α}(h:aA R sz l (cs.take (len*sz)))(hsz:0<sz)(hl:len*sz≤cs.length)(hx:l[i]?=some a):∃c,0+i*sz+sz≤cs.length∧(cs.drop (0+i*sz)).take sz=c∧c.length=sz∧R a c:=by
 have hcl:=h.len
 rw[List.length_take,Nat.min_eq_left hl]at hcl
 have hll:len=l.length:=Nat.eq_of_mul_eq_mul_right hsz hcl
 subst hll
 have hil:i<l.length:=(List.getElem?_eq_some_iff.1 hx).1
 obtain⟨c,h1,h2,h3⟩:=h.at hx
 have h4:(i+1)*sz≤l.length*sz:=Nat.mul_le_mul_right _ hil
 rw[Nat.add_mul,Nat.one_mul]at h4
 exact⟨c,om,by rw[←h1,Nat.zero_add];exact kE hil,h2,h3⟩
theorem AX{cs c:List F}{i sz m:Nat}(h:i*sz+c.length≤m)(hm:m≤cs.length):(aJ cs (i*sz) c).take m=aJ (cs.take m) (i*sz) c:=by
 unfold aJ
 rw[List.take_append,List.take_of_length_le (by rw[List.length_append,List.length_take];omega),List.take_take,Nat.min_eq_left om,List.drop_take]
 congr 2
 rw[List.length_append,List.length_take]
 omega
theorem aA.setL{α:Type}{R:α→List F→Prop}{sz len i:Nat}{l:List α}{cs c:List F}{a:α}(h:aA R sz l (cs.take (len*sz)))(hi:i<l.length)(hil:i<len)(hl:len*sz≤cs.length)(hr:R a c)(hc:c.length=sz):aA R sz (l.set i a) ((aJ cs (i*sz) c).take (len*sz)):=by
 have h4:(i+1)*sz≤len*sz:=Nat.mul_le_mul_right _ hil
 rw[Nat.add_mul,Nat.one_mul]at h4
 rw[AX om hl]
 exact h.set hi hr hc
theorem u1{cs c:List F}{o:Nat}(h:o+c.length≤cs.length):(aJ cs o c).length=cs.length:=by
 simp only[aJ,List.length_append,List.length_take,List.length_drop];omega
theorem D5{l:List Nat}{j a b:Nat}(hj:0<j)(ha:l[j]?=some a)(hb:l[j-1]?=some b):((l.set j b).set (j-1) a).Perm l:=by
 obtain⟨h1,rfl⟩:=List.getElem?_eq_some_iff.1 ha
 obtain⟨h2,rfl⟩:=List.getElem?_eq_some_iff.1 hb
 exact List.set_set_perm h1 h2
theorem FJ{X:Heap}{n:Nat}{k len:Nat}{cs:List F}{ex:Bool}{l:List Nat}{g:Nat}{caps:List F}(hl:len*21≤cs.length)(hc:aA (b4 fun _=>none) 21 l (cs.take (len*21)))(hlt:len<100000)(hgo:bX Tryz.prog g=true)(hg:∀(a b:Nat) Y m,ab X Y→ap Y m→af g ([.u (.agg (bB a)),.u (.agg (bB b))]++caps.map fun x=>.u (.f x)) Y m fun v _=>∃z:Int,v=vf (.int .i64 z)):al 199 [vf (.sl (k) (0) 21 (len) none),vf (.int .i64 0),vi len,.u (.fn g caps)] X n (cat [[(k,.cells (cs) ex)]]) fun v _ P'=>v=.tup []∧∃cs' l',P'=cat [[(k,.cells cs' ex)]]∧len*21≤cs'.length∧aA (b4 fun _=>none) 21 l' (cs'.take (len*21))∧l'.Perm l:=by
 refine al.of_to (Ps:=[[(k,.cells (cs) ex)]]) kr fun R H0 s0=>?_
 have hm0:ab X X:=ab.rfl
 refine ai 1 (ov 11 (aN 0 1) (ae 1 (bk 0 (lp (aC.for (len-1) (fun q A Hq nq=>∃(Y:Heap) (cs2:List F) (l2:List Nat),aL A [(0,vf (.sl (k) (0) 21 (len) none)),(1,vf (.int .i64 0)),(2,vi len),(3,.u (.fn g caps)),(8,vi (q+1))]∧aa Y Hq nq (cat [[(k,.cells (cs2) ex)],R])∧(ab X Y)∧(len*21≤cs2.length)∧(aA (b4 fun _=>none) 21 l2 (cs2.take (len*21)))∧(l2.Perm l)) ⟨X,cs,l,az (ts:=[0,1,2,3,8]) kr,s0,(hm0),(hl),(hc),(List.Perm.refl l)⟩ (fun q A H1 n2 hi hI=>?_) (fun A H1 n2 hI=>?_))))))
 ·obtain⟨Y,cs2,l2,hT,s3,hm0,hl2,hc,hp⟩:=hI
  refine To.keep _ ?_ hT.sub
  refine aP 2 (ov 14 (lT (q+1) len) (aj (aM (nx (aD 1 (ah 2 (bk 2 (lp (aC.dec (fun j A Hq nq=>∃(Y:Heap) (cs2:List F) (l2:List Nat),aL A [(0,vf (.sl (k) (0) 21 (len) none)),(1,vf (.int .i64 0)),(2,vi len),(3,.u (.fn g caps)),(8,vi (q+1)),(9,vi j)]∧aa Y Hq nq (cat [[(k,.cells (cs2) ex)],R])∧(ab X Y)∧(len*21≤cs2.length)∧(aA (b4 fun _=>none) 21 l2 (cs2.take (len*21)))∧(l2.Perm l)∧(j<len)) (fun j A H4 n5 hI=>?_) (q+1) ⟨Y,cs2,l2,az (ts:=[0,1,2,3,8,9]) kr,s3,(hm0),(hl2),(hc),(hp),om⟩)))))))))
  obtain⟨Y,cs2,l2,hT,s6,hm0,hl2,hc,hp,hj⟩:=hI
  refine To.keep _ ?_ hT.sub
  have hll2:=hc.len
  rw[List.length_take]at hll2
  rcases Nat.eq_zero_or_pos j with hj0 | hj0
  ·refine sq (sq (dw [0,1,2,3,4,5,6,7,8,9,10,11,12,13,14,15,16] (sg [0,1] (ss (some 20) (au (yA (j) (0) om)) (sg [3,4,5,6,7,8,9,10,11,12,13,14,15,16] (sx (nx (iF (xt 2 (.inr ⟨sm,?_⟩))))))))))
   show To Tryz.prog 199 [1,1,0,0,1] _ _ _ _
   refine rg (go 1 (ov 16 (aN (q+1) 1) (aR 1 ?_)))
   exact .inl ⟨rfl,Y,cs2,l2,az (ts:=[0,1,2,3,8]) kr,s6,(hm0),(hl2),(hc),(hp)⟩
  ·have hjl2:j<l2.length:=by omega
   obtain⟨a,hxa⟩:∃a,l2[j]?=some a:=⟨_,List.getElem?_eq_getElem om⟩
   obtain⟨ca,hqa,hra,hsa,hta⟩:=hc.atL om hl2 hxa
   cases(show ca=bB a from hta)
   have h21a:=iD a
   obtain⟨b,hxb⟩:∃a,l2[j-1]?=some a:=⟨_,List.getElem?_eq_getElem om⟩
   obtain⟨cb,hqb,hrb,hsb,htb⟩:=hc.atL om hl2 hxb
   cases(show cb=bB b from htb)
   have h21b:=iD b
   refine sq (sq (dw [0,1,2,3,4,5,6,7,8,9,10,11,12,13,14,15,16] (sg [0,1] (ss (some 20) (au (yN (j) (0) om)) (sg [3,4,5,6] (ss (some 25) (bD (id:=k) (off:=0) (sz:=21) (len:=len) (k:=j) om) (sr (some 26) (k) trivial (aG (id:=k) (off:=0+j*21) (sz:=21) (c:=bB a) (s6.at 0 rfl) hqa hra) (sg [9,10] (ss (some 29) (au (iH (j) (1) om om)) (ss (some 30) (bD (id:=k) (off:=0) (sz:=21) (len:=len) (k:=(j)-1) om) (sr (some 31) (k) trivial (aG (id:=k) (off:=0+((j)-1)*21) (sz:=21) (c:=bB b) (s6.at 0 rfl) hqb hrb) ?_)))))))))))
   obtain⟨_,X7,H8,n9,m1,s,J,⟨z,rfl⟩⟩:=(hg a b _ _ hm0 s6.topX:af g ([.u (.agg (bB a)),.u (.agg (bB b))]++caps.map fun x=>.u (.f x)) Y (n5) _).on s6
   have hm0:=hm0.tr m1
   refine sf (some 32) (J _ _ kr hgo) (oR kr) ?_
   rcases Int.lt_or_le z 0 with hz | hz
   ·refine ss (some 33) (au (eK .i64 (x:=(z)) (y:=(0:Int)) om)) ?_
    have hs2:(aJ cs2 (j*21) (bB b)).length=cs2.length:=u1 om
    refine sg [16] (sx (nx (aM (nx (aD 3 (dw [0,1,5,6,7,8,9,10,11,12,13,14,15,2,3,4,16,17] (sg [0,1,5,6] (ss (some 44) (au (iH (j) (1) om om)) (ss (some 45) (bD (id:=k) (off:=0) (sz:=21) (len:=len) (k:=(j)-1) om) (sr (some 46) (k) trivial (aG (id:=k) (off:=0+((j)-1)*21) (sz:=21) (c:=bB b) (s.at 0 rfl) hqb hrb) (sg [10,11] (ss (some 49) (bD (id:=k) (off:=0) (sz:=21) (len:=len) (k:=j) om) (sr (some 50) (k) trivial (aG (id:=k) (off:=0+j*21) (sz:=21) (c:=bB a) (s.at 0 rfl) hqa hra) (ss (some 51) (bD (id:=k) (off:=0) (sz:=21) (len:=len) (k:=j) om) ?_))))))))))))))
    obtain⟨_,s,J⟩:=nc (sz:=21) (off:=0+j*21) (new:=bB b) (cs':=aJ cs2 (j*21) (bB b)) s 0 rfl om om (by rw[Nat.zero_add])
    refine sf none (J _ _) (oR kr) (sg [2,3] (ss (some 41) (au (iH (j) (1) om om)) (ss (some 52) (bD (id:=k) (off:=0) (sz:=21) (len:=len) (k:=(j)-1) om) ?_)))
    obtain⟨_,s,J⟩:=nc (sz:=21) (off:=0+((j)-1)*21) (new:=bB a) (cs':=aJ (aJ cs2 (j*21) (bB b)) ((j-1)*21) (bB a)) s 0 rfl om om (by rw[Nat.zero_add])
    refine sf none (J _ _) (oR kr) (sx (nx (rg (go 1 (ov 36 (sN j 1) (aR 1 ?_))))))
    exact .inl ⟨rfl,j-1,om,X7,_,_,az (ts:=[0,1,2,3,8,9]) kr,s,(hm0),(by rw[u1 om];omega),((hc.setL hjl2 hj hl2 rfl h21b).setL (by rw[List.length_set];omega) om om rfl h21a),((D5 hj0 hxa hxb).trans hp),om⟩
   ·refine ss (some 33) (au (cr .i64 (x:=(z)) (y:=(0:Int)) om)) (sg [16] (sx (nx (iF (xt 2 (.inr ⟨sm,?_⟩))))))
    show To Tryz.prog 199 [1,1,0,0,1] _ _ _ _
    refine rg (go 1 (ov 16 (aN (q+1) 1) (aR 1 ?_)))
    exact .inl ⟨rfl,X7,cs2,l2,az (ts:=[0,1,2,3,8]) kr,s,(hm0),(hl2),(hc),(hp)⟩
 ·obtain⟨Y,cs2,l2,hT,s,hm0,hl2,hc,hp⟩:=hI
  refine To.keep _ ?_ hT.sub
  refine aP 2 (ov 14 (lF ((len-1)+1) len) (aj (iF (xt 0 ?_))))
  refine⟨sm,?_⟩
  exact⟨.inl rfl,_,kr,Y,_,aa.fin (Ps:=[_]) s,hm0,rfl,cs2,l2,rfl,hl2,hc,hp⟩
theorem Fu{X:Heap}{n:Nat}{g:Nat}{caps:List F}:al 199 [vf (.sl0),vf (.int .i64 0),vf (.int .i64 0),.u (.fn g caps)] X n (cat [[]]) fun v _ P'=>v=.tup []∧P'=cat [[]]:=by
 refine al.of_to (Ps:=[[]]) kr fun R H0 s0=>?_
 have hm0:ab X X:=ab.rfl
 refine ai 1 (ov 11 (aN 0 1) (ae 1 (bk 0 (lp (aC.for (0) (fun q A Hq nq=>∃(Y:Heap),aL A [(0,vf (.sl0)),(1,vf (.int .i64 0)),(2,vf (.int .i64 0)),(3,.u (.fn g caps)),(8,vf (.int .i64 1))]∧aa Y Hq nq (cat [[],R])∧(ab X Y)) ⟨X,az (ts:=[0,1,2,3,8]) kr,s0,(hm0)⟩ (fun q A H n1 hi hI=>?_) (fun A H n1 hI=>?_))))))
 ·obtain⟨Y,hT,_,hm0⟩:=hI
  refine To.keep _ ?_ hT.sub
  omega
 ·obtain⟨Y,hT,s,hm0⟩:=hI
  refine To.keep _ ?_ hT.sub
  refine aP 2 (ov 14 (lF 1 0) (aj (iF (xt 0 ?_))))
  refine⟨sm,?_⟩
  exact⟨.inl rfl,_,kr,Y,_,aa.fin (Ps:=[[]]) s,hm0,rfl,rfl⟩
theorem wM{X:Heap}{n:Nat}{f:F}{fs:List F}{M:List (Nat×O)}{l:List Nat}{g:Nat}{caps:List F}(ho:av 21 f fs M)(hc:aA (b4 fun _=>none) 21 l fs)(hlt:l.length≤12)(hgo:bX Tryz.prog g=true)(hg:∀(a b:Nat) Y m,ab X Y→ap Y m→af g ([.u (.agg (bB a)),.u (.agg (bB b))]++caps.map fun x=>.u (.f x)) Y m fun v _=>∃z:Int,v=vf (.int .i64 z)):al 199 [vf f,vi 0,vi l.length,.u (.fn g caps)] X n M fun v _ P'=>v=.tup []∧∃fs2 l2,av 21 f fs2 P'∧aA (b4 fun _=>none) 21 l2 fs2∧l2.Perm l:=by
 have hcl:=hc.len
 rcases ho with⟨rfl,rfl,rfl⟩|⟨k,len,cs,ex,rfl,rfl,hl,rfl⟩
 ·have h0:l=[]:=List.eq_nil_of_length_eq_zero (by simp at hcl;omega)
  subst h0
  exact Fu.imp fun v X' P' h=>⟨h.1,[],[],.inl ⟨rfl,rfl,h.2⟩,rfl,List.Perm.refl _⟩
 ·rw[List.length_take]at hcl
  have hll:len=l.length:=by omega
  subst hll
  exact((FJ (ex:=ex) hl hc om hgo hg).perm (by rw[fP])).imp fun v X' P' h=>by
   obtain⟨h1,cs',l',h2,h3,h4,h5⟩:=h
   exact⟨h1,_,l',.inr ⟨k,_,cs',ex,rfl,by rw[h2,fP],h3,rfl⟩,h4,h5⟩
def tw(n:Nat):Nat:=if n=0 then 0 else if n<2 then 1 else if n<4 then 2 else if n<8 then 3 else 4
theorem F2:(List.range 13).all (fun c=>jt (vi (tw c)) (d_ 148 [vf (.int .u64 (c:Int))]))=true:=by kernel_rfl
theorem E0{X:Heap}{n c:Nat}(hc:c≤12)(ht:ap X n):af 148 [vf (.int .u64 (c:Int))] X n fun v _=>v=vi (tw c):=
 nQ (List.all_eq_true.1 F2 c (List.mem_range.2 om)) rfl rfl ht
theorem Er{X:Heap}{n:Nat}{f:F}{fs:List F}{M:List (Nat×O)}{l:List Nat}{g:Nat}{caps:List F}(ho:av 21 f fs M)(hc:aA (b4 fun _=>none) 21 l fs)(hlt:l.length≤12)(hgo:bX Tryz.prog g=true)(hg:∀(a b:Nat) Y m,ab X Y→ap Y m→af g ([.u (.agg (bB a)),.u (.agg (bB b))]++caps.map fun x=>.u (.f x)) Y m fun v _=>∃z:Int,v=vf (.int .i64 z)){w:Nat}:al 147 [vf (f),vf (.int .i64 0),vi l.length,vi w,.u (.fn g caps)] X n (M) fun v _ P'=>v=.tup []∧∃fs2 l2,av 21 f fs2 P'∧aA (b4 fun _=>none) 21 l2 fs2∧l2.Perm l:=by
 refine al.of_to1 kr fun R H0 s0=>?_
 have hm0:ab X X:=ab.rfl
 refine ah 1 (ah 1 (bk 0 (lp (aC.for (1) (fun q A Hq nq=>∃(Y:Heap),aL A [(0,vf (f)),(1,vf (.int .i64 0)),(2,vi l.length),(3,vi w),(4,.u (.fn g caps))]∧aa Y Hq nq (cat [[],M,R])∧(ab X Y)∧(q=0)) ⟨X,az (ts:=[0,1,2,3,4]) kr,s0,(hm0),(rfl)⟩ (fun q A H n1 hi hI=>?_) (fun A H n1 hI=>?_)))))
 ·obtain⟨Y,hT,s,hm0,hq⟩:=hI
  refine To.keep _ ?_ hT.sub
  refine bk 1 (ai 2 (ov 23 (sN l.length 0) (ae 1 (aP 1 (ov 25 (kT ((l.length)-0) 12) (aj (iT (ai 4 ?_))))))))
  obtain⟨_,W,_,_,P2,m1,s,J,⟨rfl,fs2,l2,ho2,hc2,hp2⟩⟩:=(wM ho hc hlt hgo fun a b Y m hm=>hg a b Y m (hm0.tr hm)).on [_] [_] s
  have hm0:=hm0.tr m1
  refine ov 30 (J _ _) (aj (rt (.inr ⟨sm,?_⟩)))
  exact⟨.inr rfl,_,kr,W,_,aa.fin1 s,hm0,rfl,fs2,l2,ho2,hc2,hp2⟩
 ·obtain⟨Y,hT,_,hm0,hq⟩:=hI
  refine To.keep _ ?_ hT.sub
  omega
theorem D6{X:Heap}{n:Nat}{f:F}{fs:List F}{M:List (Nat×O)}{l:List Nat}{g:Nat}{caps:List F}(ho:av 21 f fs M)(hc:aA (b4 fun _=>none) 21 l fs)(hlt:l.length≤12)(hgo:bX Tryz.prog g=true)(hg:∀(a b:Nat) Y m,ab X Y→ap Y m→af g ([.u (.agg (bB a)),.u (.agg (bB b))]++caps.map fun x=>.u (.f x)) Y m fun v _=>∃z:Int,v=vf (.int .i64 z)):al 106 [vf (f),.u (.fn g caps)] X n (M) fun v _ P'=>v=.tup []∧∃fs2 l2,av 21 f fs2 P'∧aA (b4 fun _=>none) 21 l2 fs2∧l2.Perm l:=by
 refine al.of_to1 kr fun R H0 s0=>?_
 have hm0:ab X X:=ab.rfl
 refine ai 1 (ov 6 (lv l.length (ho.lenC om hc)) (ae 1 (rg (go 3 (ov 10 (eR (k:=.u64) (x:=((l.length:Nat):Int)) (z:=((l.length:Nat):Int)) (zw l.length om)) ?_)))))
 obtain⟨_,_,_,_,m1,s,J,rfl⟩:=(E0 hlt s0.topX).on s0
 have hm0:=hm0.tr m1
 refine ov 11 (J _ _) (go 1 ?_)
 obtain⟨_,W,_,_,P2,m2,s,J,⟨rfl,fs2,l2,ho2,hc2,hp2⟩⟩:=(Er (w:=tw l.length) ho hc hlt hgo fun a b Y m hm=>hg a b Y m (hm0.tr hm)).on [_] [_] s
 have hm0:=hm0.tr m2
 refine ov 13 (J _ _) (dn ?_)
 exact⟨.inl rfl,_,kr,W,_,aa.fin1 s,hm0,rfl,fs2,l2,ho2,hc2,hp2⟩
theorem Bc{X:Heap}{n:Nat}{f:F}{fs:List F}{M:List (Nat×O)}{l:List Nat}{g:Nat}{caps:List F}(ho:av 21 f fs M)(hc:aA (b4 fun _=>none) 21 l fs)(hlt:l.length≤12)(hgo:bX Tryz.prog g=true)(hg:∀(a b:Nat) Y m,ab X Y→ap Y m→af g ([.u (.agg (bB a)),.u (.agg (bB b))]++caps.map fun x=>.u (.f x)) Y m fun v _=>∃z:Int,v=vf (.int .i64 z)):al 245 [vf (f),vi l.length,.u (.fn g caps)] X n (M) fun v _ P'=>v=.tup []∧∃fs2 l2,av 21 f fs2 P'∧aA (b4 fun _=>none) 21 l2 fs2∧l2.Perm l:=by
 refine al.of_to1 kr fun R H0 s0=>?_
 have hm0:ab X X:=ab.rfl
 refine ah 1 (ah 3 (aD 0 (lp (aC.for (0) (fun q A Hq nq=>∃(Y:Heap),aL A [(0,vf (f)),(1,vi l.length),(2,.u (.fn g caps)),(6,vf (.int .i64 20)),(7,vf (.int .i64 0)),(8,vf (.int .i64 20))]∧aa Y Hq nq (cat [[],M,R])∧(ab X Y)) ⟨X,az (ts:=[0,1,2,6,7,8]) kr,s0,(hm0)⟩ (fun q A H n1 hi hI=>?_) (fun A H n1 hI=>?_)))))
 ·obtain⟨Y,hT,_,hm0⟩:=hI
  refine To.keep _ ?_ hT.sub
  omega
 ·obtain⟨Y,hT,s,hm0⟩:=hI
  refine To.keep _ ?_ hT.sub
  refine aP 2 (ov 13 (kF 20 l.length) (aj (iF (xt 0 ?_))))
  refine⟨sm,?_⟩
  show To Tryz.prog 245 [1,1,1] _ _ _ _
  refine ai 4 ?_
  obtain⟨_,W,_,_,P2,m1,s,J,⟨rfl,fs2,l2,ho2,hc2,hp2⟩⟩:=(wM ho hc hlt hgo fun a b Y m hm=>hg a b Y m (hm0.tr hm)).on [_] [_] s
  have hm0:=hm0.tr m1
  refine ov 27 (J _ _) (aj (bk 2 (lp (aC.for (0) (fun q A Hq nq=>∃(Y:Heap),aL A [(0,vf (f)),(1,vi l.length),(2,.u (.fn g caps)),(6,vf (.int .i64 20))]∧aa Y Hq nq (cat [[],P2,R])∧(ab X Y)) ⟨W,az (ts:=[0,1,2,6]) kr,s,(hm0)⟩ (fun q A H n2 hi hI=>?_) (fun A H n2 hI=>?_)))))
  ·obtain⟨Y,hT,_,hm1⟩:=hI
   refine To.keep _ ?_ hT.sub
   omega
  ·obtain⟨Y,hT,s,hm1⟩:=hI
   refine To.keep _ ?_ hT.sub
   refine aP 2 (ov 30 (lF 20 l.length) (aj (iF (xt 2 ?_))))
   refine⟨sm,?_⟩
   exact⟨.inl rfl,_,kr,Y,_,aa.fin1 s,hm1,rfl,fs2,l2,ho2,hc2,hp2⟩
theorem Cq{X:Heap}{n:Nat}{f:F}{fs:List F}{M:List (Nat×O)}{l:List Nat}{g:Nat}{caps:List F}(ho:av 21 f fs M)(hc:aA (b4 fun _=>none) 21 l fs)(hlt:l.length≤12)(hgo:bX Tryz.prog g=true)(hg:∀(a b:Nat) Y m,ab X Y→ap Y m→af g ([.u (.agg (bB a)),.u (.agg (bB b))]++caps.map fun x=>.u (.f x)) Y m fun v _=>∃z:Int,v=vf (.int .i64 z)):al 226 [vf (f),.u (.fn g caps)] X n (M) fun v _ P'=>v=.tup []∧∃fs2 l2,av 21 f fs2 P'∧aA (b4 fun _=>none) 21 l2 fs2∧l2.Perm l:=by
 refine al.of_to1 kr fun R H0 s0=>?_
 have hm0:ab X X:=ab.rfl
 refine rg (go 2 (ov 6 (lv l.length (ho.lenC om hc)) (go 1 ?_)))
 obtain⟨_,W,_,_,P2,m1,s,J,⟨rfl,fs2,l2,ho2,hc2,hp2⟩⟩:=(Bc ho hc hlt hgo fun a b Y m hm=>hg a b Y m (hm0.tr hm)).on [_] [_] s0
 have hm0:=hm0.tr m1
 refine ov 8 (J _ _) (dn ?_)
 exact⟨.inl rfl,_,kr,W,_,aa.fin1 s,hm0,rfl,fs2,l2,ho2,hc2,hp2⟩
theorem AV{X:Heap}{n:Nat}{a b:Nat}(ht:ap X n):af 107 [.u (.agg (bB a)),.u (.agg (bB b))] X n fun v _=>∃z:Int,v=vf (.int .i64 z):=by
 refine af.of_to kr ?_
 have s0:aa X X n (cat [[]]):=aa.ini ht
 have hm0:ab X X:=ab.rfl
 obtain⟨z,hz⟩:∃z,IntKind.i64.wrap ((a:Int)-(b:Int))=z:=⟨_,rfl⟩
 refine ag ?_
 obtain⟨_,s,J⟩:=ay s0 (.cells (bB a) true)
 refine ov 2 (J _ _ (vf (.ptr (n) (0)))) ?_
 obtain⟨_,s,J⟩:=ay s (.cells (bB b) true)
 refine ov 3 (J _ _ (vf (.ptr (n+1) (0)))) (ae 1 (ai 1 (ov 6 (am (id:=n) (off:=0) (x:=iN a) (s.at 1 rfl) rfl) (go 1 (ov 8 (am (id:=n+1) (off:=0) (x:=iN b) (s.at 0 rfl) rfl) (ov 9 (au (zj .i64 (a:Int) (b:Int) z hz)) (ax 1 ?_)))))))
 exact⟨.inr rfl,vf (.int .i64 z),kr,X,_,s,hm0,z,rfl⟩
theorem aa.mid0{X H:Heap}{n:Nat}{A B R:List (Nat×O)}(s:aa X H n (cat [A,B,R])):aa X H n (cat [[],[],R]):=s.sub (by
 simp only[cat,List.nil_append,List.append_nil]
 exact(List.sublist_append_right _ _).trans (List.sublist_append_right _ _))
theorem al.out{f:Nat}{args:List V}{X:Heap}{n:Nat}{P:List (Nat×O)}{Post Post':V→Heap→List (Nat×O)→Prop}(h:al f args X n P Post)(hp:∀v X' P',Post v X' P'→∃P2,P'.Perm P2∧Post' v X' P2):al f args X n P Post':=fun A B H s=>by
 obtain⟨v,X',H',n',P',h1,h2,h3,h4⟩:=h A B H s
 obtain⟨P2,h5,h6⟩:=hp _ _ _ h4
 exact⟨v,X',H',n',P2,h1,h2,h3.perm (by
  rw[bT,bT]
  exact List.Perm.append_left _ (List.Perm.append_right _ h5)),h6⟩
theorem Bx{X:Heap}{n:Nat}{f:F}{l:List Nat}{M:List (Nat×O)}(hb:dS f l M)(hlt:l.length<1000):al 146 [vf (f)] X n (M) fun v _ P'=>∃g Mn,v=vf g∧P'=cat [M,Mn]∧dS g l Mn:=by
 refine al.of_to1 kr fun R H0 s0=>?_
 have hm0:ab X X:=ab.rfl
 obtain⟨fs,ho,hc,hf0⟩:=hb
 rcases ho with⟨rfl,rfl,rfl⟩|⟨k,len,cs,ex,rfl,rfl,hl,rfl⟩
 ·refine ah 1 (sq (ah 2 (iT (ah 1 (rt ?_)))))
  exact⟨.inr rfl,_,kr,X,_,aa.fin (Ps:=[[],[]]) (aa.mid0 s0),hm0,.sl0,[],rfl,rfl,_,.inl ⟨rfl,rfl,rfl⟩,hc,hf0⟩
 ·have hcl:=hc.len
  rw[List.length_take]at hcl
  have h0:0<l.length:=by
   rcases l with _ | ⟨a,l⟩
   ·cases hf0 rfl
   ·simp
  refine ah 1 (sq (ah 2 (ar (nx (ag ?_)))))
  obtain⟨H1,s2,J3⟩:=ay s0 (.cells [] true)
  refine ov 5 (J3 _ _ (vf (.sl (n) (0) 21 (0) none))) (go 1 ?_)
  obtain⟨H4,s5,J6⟩:=pY (sz:=21) (bytes:=32) (m:=len) (x:=.sl (k) (0) 21 (len) none) (new:=cs.take (len*21)) s2 (s2.at 0 rfl) ((av.row (sz:=21) (A:=[_]) (B:=[_]) (.inr ⟨k,len,cs,ex,rfl,rfl,hl,rfl⟩) s2 :)) (rfl) om om om
  refine ov 7 (J6 _ _) ?_
  have s7:=aa.out s5
  refine ax 1 ?_
  exact⟨.inr rfl,_,kr,X,_,aa.fin (Ps:=[_,_]) (aa.swap [] [_] (aa.out0 s7)),hm0,_,_,rfl,rfl,_,.inr ⟨_,len,cs.take (len*21),false,rfl,rfl,by rw[List.length_take];omega,by rw[List.take_take,Nat.min_self]⟩,hc,fun h=>by rw[h]at h0;cases h0⟩
theorem Gx{X:Heap}{n:Nat}{tid o:Nat}{cs:List F}{f:F}{l:List Nat}{M Q:List (Nat×O)}(hcs:cs[o]?=some f)(hb:dS f l M)(hlt:l.length<1000):al 105 [vf (.ptr (tid) (o))] X n (cat [[(tid,.cells (cs) true)],M,Q]) fun v _ P'=>∃g Mn,v=vf g∧P'=cat [[(tid,.cells cs true)],M,Q,Mn]∧dS g l Mn:=by
 refine al.of_to (Ps:=[[(tid,.cells (cs) true)],M,Q]) kr fun R H0 s0=>?_
 have hm0:ab X X:=ab.rfl
 refine ah 1 (sq (ah 2 (ar (nx (ai 3 (ov 8 (am (id:=tid) (off:=o) (x:=f) (s0.at 0 rfl) hcs) ?_))))))
 obtain⟨_,X8,H9,_,P2,m,s,J,⟨g,Mn,rfl,rfl,hb2⟩⟩:=(Bx hb hlt).on [_] [_,_] s0
 have hm0:=hm0.tr m
 refine ov 9 (J _ _) ?_
 have s:=aa.unp [_] [_,_] [_,_] s
 refine ax 1 ?_
 exact⟨.inr rfl,_,kr,X8,_,aa.fin (Ps:=[_,_,_,_]) (aa.swap [_,_] [_] s),hm0,g,Mn,rfl,rfl,hb2⟩
theorem Dy{X:Heap}{n tid n0 i:Nat}{bk:List (List Nat)}{l:List Nat}{P0:List (Nat×O)}(h:Ak tid n0 bk P0)(hl:bk[i]?=some l)(hlt:l.length<1000):al 105 [vf (.ptr tid (21+i*1))] X n P0 fun v _ P'=>∃g Mn,v=vf g∧P'=cat [P0,Mn]∧dS g l Mn:=by
 obtain⟨fl,Ps,hp,hb⟩:=h
 obtain⟨f,M,A,B,h1,h2,rfl,_⟩:=hb.at hl
 refine((Gx (by rw[yz];exact h1) h2 hlt).perm (oc.trans hp.symm)).out fun v X' P' h=>?_
 obtain⟨g,Mn,h3,rfl,h4⟩:=h
 refine⟨cat [P0,Mn],?_,g,Mn,h3,rfl,h4⟩
 have:=hp.trans oc.symm
 simp only[cat,List.append_nil]at this⊢
 rw[←List.append_assoc,←List.append_assoc]
 exact List.Perm.append_right _ (by rw[List.append_assoc];exact this.symm)
theorem t8{X:Heap}{n:Nat}{tid n0:Nat}{S:List Nat}{P0:List (Nat×O)}(htk:eZ tid n0 S P0)(hS:S.length≤12):al 76 [vf (.ptr (tid) (0))] X n (P0) fun v _ P'=>∃f fs l Pn,v=vf f∧P'=cat [P0,Pn]∧av 21 f fs Pn∧aA (b4 fun _=>none) 21 l fs∧l.Perm S:=by
 obtain⟨bkt,htb,h,hfl,_⟩:=htk
 have hle:∀l∈bkt,l.length≤S.length:=fun l hl=>by rw[←hfl.length_eq];exact(List.sublist_flatten_of_mem hl).length_le
 have hlt2:∀i,(bkt.take i).flatten.length≤S.length:=fun i=>by
  have:=congrArg (fun l=>l.flatten.length) (List.take_append_drop i bkt)
  simp only[List.flatten_append,List.length_append]at this
  rw[←hfl.length_eq];omega
 refine al.of_to1 kr fun R H0 s0=>?_
 have hm0:ab X X:=ab.rfl
 refine ah 1 (sq (ah 2 (ar (nx (ah 1 (sq (ah 1 (bk 0 (lp (aC.for (161) (fun i A Hq nq=>∃(Y:Heap) (a:F) (Pa:List (Nat×O)) (fa:List F),aL A [(0,vf (.ptr (tid) (0))),(3,vf (a)),(7,vi i)]∧aa Y Hq nq (cat [[],P0,Pa,R])∧(ab X Y)∧(av 21 a fa Pa)∧(aA (b4 fun _=>none) 21 (bkt.take i).flatten fa)) ⟨X,.sl0,[],[],az (ts:=[0,3,7]) kr,s0,(hm0),(av.nil 21),(rfl)⟩ (fun i A H n1 hi hI=>?_) (fun A H n1 hI=>?_)))))))))))
 ·obtain⟨Y,a,Pa,fa,hT,s,hm0,ha,hca⟩:=hI
  refine To.keep _ ?_ hT.sub
  obtain⟨l,hx⟩:∃l,bkt[i]?=some l:=⟨_,List.getElem?_eq_getElem om⟩
  have hlS:=hle l (List.mem_of_getElem? hx)
  have htf:(bkt.take (i+1)).flatten=(bkt.take i).flatten++l:=by rw[bU hx,List.flatten_append,List.flatten_cons,List.flatten_nil,List.append_nil]
  have hti:=hlt2 i
  have hfa:=hca.len
  refine ag (ov 8 (lT i 161) (aQ (aM (nx (aD 1 (ah 2 (rg (go 5 (ov 15 (jk (id:=tid) (off:=21) (sz:=1) (len:=161) (k:=i) om) (go 1 ?_))))))))))
  obtain⟨_,W,_,_,P2,m1,s,J,⟨g,Mn,rfl,rfl,⟨fg,hog,hcg,_⟩⟩⟩:=(Dy htb hx om).on [_] [_,_] s
  have hm0:=hm0.tr m1
  refine ov 17 (J _ _) ?_
  have s:=aa.unp [_] [_,_] [_,_] s
  have hfg:=hcg.len
  obtain⟨_,_,_,_,ho29,s,J⟩:=b6 (sz:=21) (bytes:=32) (x:=g) (new:=fg) [_,_,_] [_] s (ha) (hog.row (A:=[_,_]) (B:=[_,_]) s) (hog.lenC om hcg) om om
  refine ov 18 (J _ _) ?_
  have s:=aa.rid [_,_] [_,_] s
  refine ae 1 (rg (ov 19 (aN i 1) (aR 1 ?_)))
  exact .inl ⟨rfl,W,_,_,_,az (ts:=[0,3,7]) kr,s,(hm0),(ho29),(by rw[htf];exact hca.append hcg)⟩
 ·obtain⟨Y,a,Pa,fa,hT,s,hm0,ha,hca⟩:=hI
  refine To.keep _ ?_ hT.sub
  refine ag (ov 8 (lF 161 161) (aj ?_))
  rw[←h,List.take_length]at hca
  refine sq (iF (xt 0 ?_))
  refine⟨sm,?_⟩
  show To Tryz.prog 76 [1,1,1,1] _ _ _ _
  refine ai 1 ?_
  obtain⟨_,W,_,_,Pb,m2,s,J,⟨rfl,fs2,l2,ho2,hc2,hp2⟩⟩:=(D6 (f:=a) (g:=107) (caps:=[]) ha hca (by rw[hfl.length_eq];omega) kr fun a b Y m hm ht=>AV ht).on [_,_] [_] s
  have hm0:=hm0.tr m2
  refine ov 21 (J _ _) (aj (ah 2 (rt ?_)))
  exact⟨.inr rfl,_,kr,W,_,aa.fin (Ps:=[_,_]) (aa.out0 s),hm0,a,fs2,l2,Pb,rfl,rfl,ho2,hc2,hp2.trans hfl⟩
section
variable {P:Program} {H:Heap} {n:Nat} {o:Oper} {r:Operand→Option V}
noncomputable def zy(o:Oper)(r:Operand→Option V):Option (Int×Int×Int):=match o.op with
 |.call {callee:=.builtin b,args:=xs,..}=>match b,ct r xs.toList with
  |.min,some [.u (.f (.int .i64 x)),.u (.f (.int .i64 y)),.u (.f (.int .i64 z))]=>some (x,y,z)
  |_,_=>none
 |_=>none
theorem Ht{x y z w:Int}(h1:w≤x)(h2:w≤y)(h3:z=w)(hk:zy o r=some (x,y,z):=by kernel_rfl):aE P o r H n (vf (.int .i64 w)) H n:=by
 unfold zy at hk
 split at hk
 ·rename_i b xs ats ho
  split at hk
  ·rename_i hv
   cases hk
   refine .prim (vf (.int .i64 w),[],0) (by
    simp only[ho,stepOp,hv,cK,j4,Bool.false_eq_true,if_false,if_true,and_self]
    rw[show(if z<(if y<x then y else x)then z else(if y<x then y else x))=w by subst h3; (repeat' split)<;>omega])
  ·cases hk
 ·cases hk
end
theorem yo{sz:Nat}{a:F}{fs:List F}{M:List (Nat×O)}(h:av sz a fs M):av sz a fs (cat [M]):=by rw[fP];exact h
theorem uV{X:Heap}{n:Nat}{f:F}{l:List Nat}(hr:ch b4 21 X f l)(hlt:l.length≤1000)(ht:ap X n):bF 75 [vf (f)] X n fun v _ M'=>∃a,v=vf a∧av 1 a (is l) M':=by
 refine bF.of_to kr ?_
 have s0:aa X X n (cat [[]]):=aa.ini ht
 have hm0:ab X X:=ab.rfl
 refine ah 1 (ah 1 (aP 1 (ov 7 (lv l.length hr.lenA) (ae 1 (bk 0 (lp (aC.for (l.length) (fun i A Hq nq=>∃(Y:Heap) (a:F) (Pa:List (Nat×O)),aL A [(3,vf (a)),(6,vf (f)),(7,vi l.length),(8,vi i)]∧aa Y Hq nq (cat [[],Pa])∧(ab X Y)∧(ch b4 21 Y f l)∧(av 1 a (is (l.take i)) Pa)) ⟨X,.sl0,[],az (ts:=[3,6,7,8]) kr,s0,(hm0),(hr),(av.nil 1)⟩ (fun i A H n1 hi hI=>?_) (fun A H n1 hI=>?_))))))))
 ·obtain⟨Y,a,Pa,hT,s,hm0,hr,ha⟩:=hI
  refine To.keep _ ?_ hT.sub
  obtain⟨k,hx⟩:∃k,l[i]?=some k:=⟨_,List.getElem?_eq_getElem hi⟩
  obtain⟨id,off,cap,all,exb,c,rfl,h2,h3,h4,hR⟩:=hr.at hx
  cases(show c=bB k from hR)
  have hcl:=iD k
  have hil:=dI (l.take i)
  rw[List.length_take]at hil
  refine ag (ov 9 (lT i l.length) (aQ (aM (nx (aD 1 (ag (ov 10 (ix id off 21 l.length i) (ov 11 (aG (id:=id) (off:=off+i*21) (sz:=21) (c:=bB k) (s.mono _ _ h2) h3 h4) ?_))))))))
  obtain⟨_,s,J⟩:=ay s (.cells [.int .i64 0,.int .u8 0,.int .u8 0,.int .u8 0,.int .u8 0,.int .u8 0,.int .u8 0,.int .u8 0,.int .u8 0,.int .u8 0,.int .u8 0,.int .u8 0,.int .u8 0,.int .u8 0,.int .u8 0,.int .u8 0,.int .u8 0,.int .u8 0,.int .u8 0,.int .u8 0,.int .u8 0] true)
  refine ov 5 (J _ _ (vf (.ptr (n1) (0)))) ?_
  obtain⟨_,s,J⟩:=dv (sz:=21) (new:=bB k) s 0 rfl om rfl
  refine oe (J _ _) (aj (rg (go 2 (ov 14 (am (id:=n1) (off:=0) (x:=iN k) (s.at 0 rfl) rfl) ?_))))
  obtain⟨W,_,s,m,f1,J⟩:=bj s (.cells [iN k] true)
  have hm0:=hm0.tr m
  have hr:=hr.mono b4.mono m
  refine ov 15 (J _ _ (vf (.sl (n1+1) (0) 1 (1) none))) ?_
  obtain⟨_,_,_,_,ho59,s,J⟩:=b6 (sz:=1) (bytes:=8) (x:=.sl (n1+1) (0) 1 (1) none) (new:=[iN k]) [_] [] s (ha) (bf (s.mono _ _ f1) rfl) (rfl) om om
  refine ov 16 (J _ _) ?_
  have s:=aa.tl s
  refine ae 1 (rg (ov 17 (aN i 1) (aR 1 ?_)))
  exact .inl ⟨rfl,W,_,_,az (ts:=[3,6,7,8]) kr,s,(hm0),(hr),(by rw[bU hx,li];exact ho59)⟩
 ·obtain⟨Y,a,Pa,hT,s,hm0,hr,ha⟩:=hI
  refine To.keep _ ?_ hT.sub
  refine ag (ov 9 (lF l.length l.length) (aQ (iF (xt 0 ?_))))
  refine⟨sm,?_⟩
  show To Tryz.prog 75 [1,1,1] _ _ _ _
  refine ah 2 (rt ?_)
  exact⟨.inr rfl,vf a,kr,Y,_,aa.out0 s,hm0,a,rfl,by rw[List.take_length]at ha;exact yo ha⟩
theorem re{X:Heap}{n:Nat}{tid n0:Nat}{S:List Nat}{P0:List (Nat×O)}(htk:eZ tid n0 S P0)(hS:S.length≤12):al 59 [vf (.ptr (tid) (0))] X n (P0) fun v _ P'=>∃a l Pa,v=vf a∧P'=cat [P0,Pa]∧av 1 a (is l) Pa∧l.Perm S:=by
 refine al.of_to1 kr fun R H0 s0=>?_
 have hm0:ab X X:=ab.rfl
 refine ah 1 (ai 1 ?_)
 obtain⟨_,W,_,_,P2,m,s,J,⟨f,fs,l,Pn,rfl,rfl,hf,hc,hp⟩⟩:=(t8 htk hS).on [_] [_] s0
 refine ov 4 (J _ _) ?_
 have s:=aa.unp [_] [_] [_,_] s
 have hpl:=hp.length_eq
 obtain⟨_,m1,s,hr⟩:=av.frzS (hf) (show aA (b4 W) 21 l fs from hc) om b4.mono [_,_] [_] s
 obtain⟨_,W,_,_,Pa,m2,s,J,⟨a,rfl,ha⟩⟩:=(uV (f:=f) hr om s.topX).on s
 have hm0:=hm0.tr (m.tr (m1.tr m2))
 refine ov 5 (J _ _) (ax 1 ?_)
 exact⟨.inr rfl,_,kr,W,_,aa.fin (Ps:=[_,_]) (aa.swap [_] [] (aa.out0 s)),hm0,a,l,Pa,rfl,rfl,ha,hp⟩
theorem xX(a:Nat):((bB a).drop 1).take 20=bs (bd [a]):=by
 rw[bB,List.drop_succ_cons,List.drop_zero,List.take_of_length_le (by rw[bg,cx];omega)]
theorem GH{P:Program}{X H:Heap}{n sz len:Nat}{o:Oper}{r:Operand→Option V}{f:F}{fs:List F}{M:List (Nat×O)}(A B:List (List (Nat×O)))(ho:av sz f fs M)(s:aa X H n (cat (A++M::B)))(hsz:0<sz)(hl:fs.length=len*sz)(hk:ko P o r=some (f,sz,none,some len):=by kernel_rfl):aE P o r H n (vf f) H n:=by
 rcases ho with⟨rfl,rfl,rfl⟩|⟨k,len2,cs,ex,rfl,rfl,h1,rfl⟩
 ·have h0:0=len*sz:=hl
  rcases Nat.mul_eq_zero.1 h0.symm with h | h
  ·subst h;exact r7 rfl rfl hk
  ·omega
 ·rw[List.length_take,Nat.min_eq_left h1]at hl
  have:len2=len:=Nat.eq_of_mul_eq_mul_right hsz hl
  subst this
  have hk1:=(s.own (k,.cells cs ex) (by rw[bT];simp[cat])).1
  simp only at hk1
  have:=c7 (H:=H) (n:=n) (L:=cs.length) (l:=0) (h:=len2) (by rw[hk1];rfl) rfl rfl om om (fun c h=>by cases h) hsz hk
  simpa using this
theorem B4{X:Heap}{n:Nat}{a b bid:Nat}{c:List F}(hb:X bid=some (.cells c true))(hc:dj c)(ht:ap X n):af 227 [.u (.agg (bB a)),.u (.agg (bB b)),vf (.ptr (bid) (0))] X n fun v _=>∃z:Int,v=vf (.int .i64 z):=by
 refine af.of_to kr ?_
 have s0:aa X X n (cat [[]]):=aa.ini ht
 have hm0:ab X X:=ab.rfl
 have hcl:=hc.len
 have h21a:=iD a
 have h21b:=iD b
 have h20a:(bs (bd [a])).length=20:=by rw[bg,cx]
 have h20b:(bs (bd [b])).length=20:=by rw[bg,cx]
 refine ag ?_
 obtain⟨_,s,J⟩:=ay s0 (.cells (bB a) true)
 refine ov 3 (J _ _ (vf (.ptr (n) (0)))) ?_
 obtain⟨_,s,J⟩:=ay s (.cells (bB b) true)
 refine ov 4 (J _ _ (vf (.ptr (n+1) (0)))) (ae 1 (ag (ov 6 (aG (id:=bid) (off:=0) (sz:=20) (c:=c) (s.mono _ _ hb) om (by rw[List.drop_zero,List.take_of_length_le om])) (go 1 (ov 8 (aG (id:=n) (off:=1) (sz:=20) (c:=bs (bd [a])) (s.at 1 rfl) om (xX a)) (go 1 (ov 10 (aG (id:=n+1) (off:=1) (sz:=20) (c:=bs (bd [b])) (s.at 0 rfl) om (xX b)) ?_)))))))
 obtain⟨_,W,_,_,m,s,J,⟨z,rfl⟩⟩:=(qP (d:=bs (bd [a])) (e:=bs (bd [b])) hc (iI _) (iI _) s.topX).on s
 have hm0:=hm0.tr m
 refine ov 11 (J _ _) (ax 1 ?_)
 exact⟨.inr rfl,vf (.int .i64 z),kr,W,_,s,hm0,z,rfl⟩
theorem DS{X:Heap}{n:Nat}{tid n0:Nat}{S:List Nat}{P0:List (Nat×O)}(htk:eZ tid n0 S P0)(hS:S.length≤4){c:List F}(hk:dj c):al 188 [vf (.ptr (tid) (0)),.u (.agg (c)),vf (.int .i64 4)] X n (P0) fun v _ P'=>∃a l Pa,v=vf a∧P'=cat [P0,Pa]∧av 1 a (is l) Pa∧l.Perm S:=by
 refine al.of_to1 kr fun R H0 s0=>?_
 have hm0:ab X X:=ab.rfl
 have hcl:=hk.len
 skip
 skip
 refine ag ?_
 obtain⟨_,s,J⟩:=ay s0 (.cells (c) true)
 refine ov 4 (J _ _ (vf (.ptr (n) (0)))) (ae 1 (ag ?_))
 obtain⟨_,m1,s,f1⟩:=aa.frzC s
 have hbx:=f1
 refine go 1 ?_
 obtain⟨_,_,_,_,P2,m2,s,J,⟨f,fs,l,Pn,rfl,rfl,hf,hc,hp⟩⟩:=(t8 htk om).on [_] [_] s
 have f2:=m2 _ _ f1
 have hbx:=m2 _ _ hbx
 refine ov 9 (J _ _) ?_
 have s:=aa.unp [_] [_] [_,_] s
 have hpl:=hp.length_eq
 refine ae 1 (ai 2 ?_)
 obtain⟨_,W,_,_,Pn2,m3,s,J,⟨rfl,fs2,l2,hf2,hc2,hp2⟩⟩:=(Cq (f:=f) (g:=227) (caps:=[.ptr n 0]) hf hc om kr fun a b Y m hm ht=>B4 (hm _ _ hbx) hk ht).on [_,_] [_] s
 have f3:=m3 _ _ f2
 refine ov 12 (J _ _) (aj ?_)
 have hpl2:=hp2.length_eq
 refine ai 3 (ov 16 (lv l2.length (hf2.lenC om hc2)) (ov 17 (Ht (x:=4) (y:=1000) (z:=((l2.length:Nat):Int)) (w:=((l2.length:Nat):Int)) om om rfl kr) (ov 18 (dR (mx:=true) (x:=(0:Int)) (y:=((l2.length:Nat):Int)) (z:=((l2.length:Nat):Int)) (by simp only[if_true]; split<;>omega) kr) (ov 19 (GH (len:=l2.length) [_,_] [_] hf2 s om hc2.len kr) ?_))))
 obtain⟨_,m4,s,hr⟩:=av.frzS (hf2) (show aA (b4 W) 21 l2 fs2 from hc2) om b4.mono [_,_] [_] s
 have f4:=m4 _ _ f3
 have hbx:=(m3.tr m4) _ _ hbx
 obtain⟨_,W,_,_,Pa,m5,s,J,⟨a,rfl,ha⟩⟩:=(uV (f:=f) hr om s.topX).on s
 have hm0:=hm0.tr (m1.tr (m2.tr (m3.tr (m4.tr m5))))
 refine ov 20 (J _ _) (ax 1 ?_)
 exact⟨.inr rfl,_,kr,W,_,aa.fin (Ps:=[_,_]) (aa.swap [_] [] (aa.out0 s)),hm0,a,l2,Pa,rfl,rfl,ha,hp2.trans hp⟩
theorem xx:∀n,il (List.replicate n []) (List.replicate n .sl0) (List.replicate n [])
 |0=>trivial
 |n+1=>⟨⟨[],av.nil 21,rfl,fun _=>rfl⟩,xx n⟩
theorem rF(M:List (Nat×O)):∀n,cat (M::List.replicate n [])=M
 |0=>by simp[cat]
 |n+1=>by
  have:=rF M n
  simp only[cat,List.replicate_succ,List.nil_append]at this⊢
  exact this
theorem D7(tid k:Nat):eZ tid k [] [(tid,.cells (iN k::(bs (bd [k])++List.replicate 161 .sl0)) true)]:=
 ⟨List.replicate 161 [],⟨_,List.replicate 161 [],by rw[rF],xx 161⟩,List.length_replicate ..,by rw[List.flatten_replicate_nil],fun j l h k hk=>by
  rw[List.eq_of_mem_replicate (List.mem_of_getElem? h)]at hk
  cases hk⟩
theorem C_{X:Heap}{n:Nat}{k:Nat}(ht:ap X n):bF 74 [vi k] X n fun v _ M'=>∃tid,v=vf (.ptr tid 0)∧eZ tid k [] M':=by
 refine bF.of_to kr ?_
 have s0:aa X X n (cat [[]]):=aa.ini ht
 have hm0:ab X X:=ab.rfl
 have hk20:(bs (bd [k])).length=20:=by rw[bg,cx]
 refine ah 1 (ai 2 ?_)
 obtain⟨_,_,s,m,f,J⟩:=bj s0 (.cells [iN k] true)
 refine ov 5 (J _ _ (vf (.sl (n) (0) 1 (1) none))) ?_
 obtain⟨_,W,_,n1,m1,s,J,rfl⟩:=(iA (l:=[k]) (bf (cap:=none) f rfl) sm s.topX).on s
 have hm0:=hm0.tr (m.tr m1)
 refine ov 6 (J _ _) ?_
 have hL140:(iN k::((bs (bd [k]))++[.sl0,.sl0,.sl0,.sl0,.sl0,.sl0,.sl0,.sl0,.sl0,.sl0,.sl0,.sl0,.sl0,.sl0,.sl0,.sl0,.sl0,.sl0,.sl0,.sl0,.sl0,.sl0,.sl0,.sl0,.sl0,.sl0,.sl0,.sl0,.sl0,.sl0,.sl0,.sl0,.sl0,.sl0,.sl0,.sl0,.sl0,.sl0,.sl0,.sl0,.sl0,.sl0,.sl0,.sl0,.sl0,.sl0,.sl0,.sl0,.sl0,.sl0,.sl0,.sl0,.sl0,.sl0,.sl0,.sl0,.sl0,.sl0,.sl0,.sl0,.sl0,.sl0,.sl0,.sl0,.sl0,.sl0,.sl0,.sl0,.sl0,.sl0,.sl0,.sl0,.sl0,.sl0,.sl0,.sl0,.sl0,.sl0,.sl0,.sl0,.sl0,.sl0,.sl0,.sl0,.sl0,.sl0,.sl0,.sl0,.sl0,.sl0,.sl0,.sl0,.sl0,.sl0,.sl0,.sl0,.sl0,.sl0,.sl0,.sl0,.sl0,.sl0,.sl0,.sl0,.sl0,.sl0,.sl0,.sl0,.sl0,.sl0,.sl0,.sl0,.sl0,.sl0,.sl0,.sl0,.sl0,.sl0,.sl0,.sl0,.sl0,.sl0,.sl0,.sl0,.sl0,.sl0,.sl0,.sl0,.sl0,.sl0,.sl0,.sl0,.sl0,.sl0,.sl0,.sl0,.sl0,.sl0,.sl0,.sl0,.sl0,.sl0,.sl0,.sl0,.sl0,.sl0,.sl0,.sl0,.sl0,.sl0,.sl0,.sl0,.sl0,.sl0,.sl0,.sl0,.sl0,.sl0,.sl0,.sl0,.sl0])).length=182:=by simp only[List.length_cons,List.length_append,List.length_nil,hk20]
 refine ov 7 (sB (cs:=iN k::((bs (bd [k]))++[.sl0,.sl0,.sl0,.sl0,.sl0,.sl0,.sl0,.sl0,.sl0,.sl0,.sl0,.sl0,.sl0,.sl0,.sl0,.sl0,.sl0,.sl0,.sl0,.sl0,.sl0,.sl0,.sl0,.sl0,.sl0,.sl0,.sl0,.sl0,.sl0,.sl0,.sl0,.sl0,.sl0,.sl0,.sl0,.sl0,.sl0,.sl0,.sl0,.sl0,.sl0,.sl0,.sl0,.sl0,.sl0,.sl0,.sl0,.sl0,.sl0,.sl0,.sl0,.sl0,.sl0,.sl0,.sl0,.sl0,.sl0,.sl0,.sl0,.sl0,.sl0,.sl0,.sl0,.sl0,.sl0,.sl0,.sl0,.sl0,.sl0,.sl0,.sl0,.sl0,.sl0,.sl0,.sl0,.sl0,.sl0,.sl0,.sl0,.sl0,.sl0,.sl0,.sl0,.sl0,.sl0,.sl0,.sl0,.sl0,.sl0,.sl0,.sl0,.sl0,.sl0,.sl0,.sl0,.sl0,.sl0,.sl0,.sl0,.sl0,.sl0,.sl0,.sl0,.sl0,.sl0,.sl0,.sl0,.sl0,.sl0,.sl0,.sl0,.sl0,.sl0,.sl0,.sl0,.sl0,.sl0,.sl0,.sl0,.sl0,.sl0,.sl0,.sl0,.sl0,.sl0,.sl0,.sl0,.sl0,.sl0,.sl0,.sl0,.sl0,.sl0,.sl0,.sl0,.sl0,.sl0,.sl0,.sl0,.sl0,.sl0,.sl0,.sl0,.sl0,.sl0,.sl0,.sl0,.sl0,.sl0,.sl0,.sl0,.sl0,.sl0,.sl0,.sl0,.sl0,.sl0,.sl0,.sl0,.sl0,.sl0])) (pl:=[(0,1),(1,20),(21,161)]) (z:=[.int .i64 0,.int .u8 0,.int .u8 0,.int .u8 0,.int .u8 0,.int .u8 0,.int .u8 0,.int .u8 0,.int .u8 0,.int .u8 0,.int .u8 0,.int .u8 0,.int .u8 0,.int .u8 0,.int .u8 0,.int .u8 0,.int .u8 0,.int .u8 0,.int .u8 0,.int .u8 0,.int .u8 0,.sl0,.sl0,.sl0,.sl0,.sl0,.sl0,.sl0,.sl0,.sl0,.sl0,.sl0,.sl0,.sl0,.sl0,.sl0,.sl0,.sl0,.sl0,.sl0,.sl0,.sl0,.sl0,.sl0,.sl0,.sl0,.sl0,.sl0,.sl0,.sl0,.sl0,.sl0,.sl0,.sl0,.sl0,.sl0,.sl0,.sl0,.sl0,.sl0,.sl0,.sl0,.sl0,.sl0,.sl0,.sl0,.sl0,.sl0,.sl0,.sl0,.sl0,.sl0,.sl0,.sl0,.sl0,.sl0,.sl0,.sl0,.sl0,.sl0,.sl0,.sl0,.sl0,.sl0,.sl0,.sl0,.sl0,.sl0,.sl0,.sl0,.sl0,.sl0,.sl0,.sl0,.sl0,.sl0,.sl0,.sl0,.sl0,.sl0,.sl0,.sl0,.sl0,.sl0,.sl0,.sl0,.sl0,.sl0,.sl0,.sl0,.sl0,.sl0,.sl0,.sl0,.sl0,.sl0,.sl0,.sl0,.sl0,.sl0,.sl0,.sl0,.sl0,.sl0,.sl0,.sl0,.sl0,.sl0,.sl0,.sl0,.sl0,.sl0,.sl0,.sl0,.sl0,.sl0,.sl0,.sl0,.sl0,.sl0,.sl0,.sl0,.sl0,.sl0,.sl0,.sl0,.sl0,.sl0,.sl0,.sl0,.sl0,.sl0,.sl0,.sl0,.sl0,.sl0,.sl0,.sl0,.sl0,.sl0,.sl0,.sl0,.sl0,.sl0,.sl0,.sl0,.sl0,.sl0,.sl0,.sl0,.sl0,.sl0,.sl0,.sl0,.sl0,.sl0,.sl0,.sl0,.sl0,.sl0,.sl0,.sl0]) (ps:=[(0,[iN k]),(1,bs (bd [k]))]) (by simp[dJ,aJ,hk20]) kr) ?_
 obtain⟨_,s,J⟩:=ay s (.cells (iN k::((bs (bd [k]))++[.sl0,.sl0,.sl0,.sl0,.sl0,.sl0,.sl0,.sl0,.sl0,.sl0,.sl0,.sl0,.sl0,.sl0,.sl0,.sl0,.sl0,.sl0,.sl0,.sl0,.sl0,.sl0,.sl0,.sl0,.sl0,.sl0,.sl0,.sl0,.sl0,.sl0,.sl0,.sl0,.sl0,.sl0,.sl0,.sl0,.sl0,.sl0,.sl0,.sl0,.sl0,.sl0,.sl0,.sl0,.sl0,.sl0,.sl0,.sl0,.sl0,.sl0,.sl0,.sl0,.sl0,.sl0,.sl0,.sl0,.sl0,.sl0,.sl0,.sl0,.sl0,.sl0,.sl0,.sl0,.sl0,.sl0,.sl0,.sl0,.sl0,.sl0,.sl0,.sl0,.sl0,.sl0,.sl0,.sl0,.sl0,.sl0,.sl0,.sl0,.sl0,.sl0,.sl0,.sl0,.sl0,.sl0,.sl0,.sl0,.sl0,.sl0,.sl0,.sl0,.sl0,.sl0,.sl0,.sl0,.sl0,.sl0,.sl0,.sl0,.sl0,.sl0,.sl0,.sl0,.sl0,.sl0,.sl0,.sl0,.sl0,.sl0,.sl0,.sl0,.sl0,.sl0,.sl0,.sl0,.sl0,.sl0,.sl0,.sl0,.sl0,.sl0,.sl0,.sl0,.sl0,.sl0,.sl0,.sl0,.sl0,.sl0,.sl0,.sl0,.sl0,.sl0,.sl0,.sl0,.sl0,.sl0,.sl0,.sl0,.sl0,.sl0,.sl0,.sl0,.sl0,.sl0,.sl0,.sl0,.sl0,.sl0,.sl0,.sl0,.sl0,.sl0,.sl0,.sl0,.sl0,.sl0,.sl0,.sl0,.sl0])) true)
 refine ov 8 (J _ _ (vf (.ptr (n1) (0)))) (ax 1 ?_)
 exact⟨.inr rfl,_,kr,W,_,s,hm0,_,rfl,D7 _ k⟩
end Go.Proofs.YtkimkgbppegkhaaGreat.Cm
