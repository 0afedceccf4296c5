/- Rows over the 256 elements: how steps turn single elements. No program is walked here. · The clean machine's walks of solving (3): a matrix brought into steps. -/
import Derived.Test.YtkimkgbppegkhaaGreatGb
set_option linter.unusedVariables false
set_option linter.unusedSimpArgs false
namespace Go.Proofs.YtkimkgbppegkhaaGreat.Cm
open Go Go.RowKit Go.Proofs.YtkimkgbppegkhaaGreat.Gf
def bP(m:List (List Nat))(r c:Nat):Nat:=((bc m r)[c]?).getD 0
def Un(len n:Nat)(m:List (List Nat)):Prop:=∀c,c<n→∀i,i<len→bP m i c=if i=c then 1 else 0
section
variable {len W:Nat} {m:List (List Nat)}
theorem vT(h:Mx len W m){i c:Nat}(hi:i<len)(hc:c<W):(bc m i)[c]?=some (bP m i c):=by
 unfold bP
 rw[List.getElem?_eq_getElem (by rw[(h.row hi).1];exact hc)]
 rfl
theorem fh(h:Mx len W m){i c:Nat}(hi:i<len):bP m i c<256:=by
 unfold bP
 cases hq:(bc m i)[c]? with
 |none=>simp
 |some a=>exact(h.row hi).2 a (List.mem_of_getElem? hq)
theorem Un.units{n:Nat}(h:Mx len W m)(hn:n≤W)(u:Un len n m):m_ n m:=fun c hc i r hr=>by
 have hi:i<len:=by
  rw[←h.1]
  rcases Nat.lt_or_ge i m.length with g | g
  ·exact g
  ·rw[List.getElem?_eq_none g]at hr;cases hr
 have e:bc m i=r:=by unfold bc;rw[hr];rfl
 rw[←e,vT h hi om,u c hc i hi]
theorem F_{i j:Nat}(h:m.length=len)(hi:i<len)(hj:j<len)(r:Nat):bc ((Tn.sw i j).run m) r=bc m (if r=j then i else if r=i then j else r):=by
 simp only[Tn.run]
 rw[gL (by simp;omega),gL om]
 by_cases e1:r=j
 ·simp[e1]
 ·by_cases e2:r=i
  ·rw[if_neg e1,if_pos e2,if_neg e1,if_pos e2]
  ·simp[e1,e2]
theorem yp{i j:Nat}(h:m.length=len)(hi:i<len)(hj:j<len)(r c:Nat):bP ((Tn.sw i j).run m) r c=bP m (if r=j then i else if r=i then j else r) c:=by
 unfold bP;rw[F_ h hi hj]
theorem xC{i a:Nat}(h:m.length=len)(hi:i<len)(r c:Nat):bP ((Tn.sc i a).run m) r c=if r=i then gm a (bP m i c)else bP m r c:=by
 unfold bP
 simp only[Tn.run]
 rw[gL om]
 by_cases e:r=i
 ·rw[if_pos e,if_pos e,List.getElem?_map]
  cases(bc m i)[c]? with
  |none=>simp[gM]
  |some x=>rfl
 ·rw[if_neg e,if_neg e]
theorem ym:∀{a b:List Nat} (c:Nat),a.length=b.length→((aX a b)[c]?).getD 0=(a[c]?).getD 0 ^^^ (b[c]?).getD 0
 |[],[],c,_=>by simp[aX]
 |x::a,y::b,0,_=>by simp[aX]
 |x::a,y::b,c+1,h=>by simpa[aX]using ym (a:=a) (b:=b) c (by simpa using h)
 |[],_::_,_,h=>by simp at h
 |_::_,[],_,h=>by simp at h
theorem rV{i a k:Nat}(h:Mx len W m)(hi:i<len)(hk:k<len)(ha:a<256)(r c:Nat):bP ((Tn.ad i a k).run m) r c=if r=i then bP m i c ^^^ gm a (bP m k c)else bP m r c:=by
 unfold bP
 simp only[Tn.run]
 have hl:=h.1
 rw[gL om]
 by_cases e:r=i
 ·rw[if_pos e,if_pos e,ym c (by rw[(h.row hi).1,((h.row hk).sca ha).1]),List.getElem?_map]
  cases(bc m k)[c]? with
  |none=>simp[gM]
  |some x=>rfl
 ·rw[if_neg e,if_neg e]
theorem Un.sw{i k:Nat}(h:Mx len W m)(u:Un len i m)(hik:i≤k)(hk:k<len):Un len i ((Tn.sw i k).run m):=fun c hc r hr=>by
 rw[yp h.1 om hk]
 by_cases e1:r=k
 ·rw[if_pos e1,u c hc i om,if_neg om,if_neg om]
 ·by_cases e2:r=i
  ·rw[if_neg e1,if_pos e2,u c hc k hk,if_neg om,if_neg om]
  ·rw[if_neg e1,if_neg e2,u c hc r hr]
theorem Un.sc{i a:Nat}(h:Mx len W m)(u:Un len i m)(hi:i<len):Un len i ((Tn.sc i a).run m):=fun c hc r hr=>by
 rw[xC h.1 hi]
 by_cases e:r=i
 ·rw[if_pos e,u c hc i hi,if_neg om,gM,if_neg om]
 ·rw[if_neg e,u c hc r hr]
theorem Un.ad{i q a:Nat}(h:Mx len W m)(u:Un len i m)(hi:i<len)(hq:q<len)(ha:a<256):Un len i ((Tn.ad q a i).run m):=fun c hc r hr=>by
 rw[rV h hq hi ha]
 by_cases e:r=q
 ·rw[if_pos e,u c hc q hq,u c hc i hi,if_neg (show¬i=c by omega),gM,Nat.xor_zero,e]
 ·rw[if_neg e,u c hc r hr]
/-- a column is nothing but for one row, up to a row -/
def Clr(i q:Nat)(m:List (List Nat)):Prop:=bP m i i=1∧∀r,r<q→r≠i→bP m r i=0
theorem Un.next{i:Nat}(u:Un len i m)(z:Clr i len m):Un len (i+1) m:=fun c hc r hr=>by
 by_cases e:c=i
 ·subst e
  by_cases e2:r=c
  ·subst e2;rw[if_pos rfl];exact z.1
  ·rw[if_neg e2];exact z.2 r hr e2
 ·exact u c om r hr
theorem Clr.ad{i q a:Nat}(h:Mx len W m)(z:Clr i q m)(hi:i<len)(hq:q<len)(hqi:q≠i)(ha:a=bP m q i):Clr i (q+1) ((Tn.ad q a i).run m):=by
 have hlt:a<256:=by rw[ha];exact fh h hq
 refine⟨?_,fun r hr hri=>?_⟩
 ·rw[rV h hq hi hlt,if_neg (Ne.symm hqi)];exact z.1
 ·rw[rV h hq hi hlt]
  by_cases e:r=q
  ·rw[if_pos e,z.1,←ha,gm_comm hlt om,mR hlt,Nat.xor_self]
  ·rw[if_neg e];exact z.2 r om hri
theorem Clr.skip{i q:Nat}(z:Clr i q m)(h:q=i∨bP m q i=0):Clr i (q+1) m:=⟨z.1,fun r hr hri=>by
 rcases Nat.lt_or_ge r q with g | g
 ·exact z.2 r g hri
 ·have:r=q:=by omega
  subst this
  rcases h with h | h
  ·exact absurd h hri
  ·exact h⟩
end
theorem fL(ts:List Tn)(t:Tn)(L:List (List Nat)):aK (ts++[t]) L=t.run (aK ts L):=by rw[uN];rfl
theorem rD{len:Nat}{ts:List Tn}{t:Tn}(h:iq len ts)(ht:t.ok len):iq len (ts++[t]):=fun u hu=>by
 rcases List.mem_append.1 hu with h1 | h1
 ·exact h u h1
 ·simp at h1;subst h1;exact ht
theorem aw.row{R:F→List Nat→Prop}{fs:List F}{L:List (List Nat)}(h:aw R fs L){i:Nat}(hi:i<L.length):∃g,fs[i]?=some g∧R g (bc L i):=by
 obtain⟨g,h1,h2⟩:=h.nth hi
 refine⟨g,h1,?_⟩
 unfold bc
 rw[List.getElem?_eq_getElem hi]
 exact h2
theorem aB.at{H:Heap}{f:F}{l:List Nat}(h:aB H f l){k:Nat}(hk:k<l.length):∃id off cap,f=.sl id off 1 l.length cap∧cn H id (off+k) (.int .u8 (((l[k]?).getD 0:Nat):Int)):=by
 rcases h.cases with⟨rfl,rfl⟩|⟨id,off,cap,rfl,hat⟩
 ·simp at hk
 ·refine⟨id,off,cap,rfl,hat k _ ?_⟩
  rw[List.getElem?_eq_getElem hk];rfl
theorem iw{fs:List F}{i:Nat}{x:F}(hi:i<fs.length):aJ fs (0+i*1) [x]=fs.set i x:=by
 unfold aJ
 rw[List.set_eq_take_append_cons_drop,if_pos hi]
 simp
theorem Hu{X:Heap}{n:Nat}{b k:Nat}{f:F}(l:List Nat)(hr:aB X f l)(hb:X b=some (.cells [iN k] true))(hk:k<l.length)(ht:ap X n):af 139 [vf (f),vf (.ptr (b) (0))] X n fun v X'=>v=vf (.bool (decide ((l[k]?).getD 0≠0))):=by
 refine af.of_to kr ?_
 have s0:=aa.ini ht
 have hm0:ab X X:=ab.rfl
 obtain⟨id,off,cap,rfl,hat⟩:=hr.at hk
 refine ah 1 (ai 1 (ov 5 (am (off:=0) (x:=iN k) (s0.mono _ _ hb) kr) (ov 6 (ix id off 1 l.length k) (ov 7 (lx id (off+k*1) (.int .u8 (((l[k]?).getD 0:Nat):Int)) (by rw[Nat.mul_one];exact hat)) (ov 8 (au (op:=.neq) (a:=vb ((l[k]?).getD 0)) (b:=vf (.int .u8 0)) (fun t=>pI .u8 ((((l[k]?).getD 0:Nat)):Int) 0 t)) (ax 1 ?_))))))
 exact⟨.inr rfl,vf (.bool (decide (((((l[k]?).getD 0:Nat)):Int)≠0))),kr,X,_,s0,hm0,by congr 3;exact propext om⟩
theorem FN(l k:List Nat):cE l.length [l,k]=aX l k:=by
 show aX (aX (zs l.length) l) k=_
 rw[mH]
theorem ul{X:Heap}{n:Nat}{c:Nat}{f g:F}(l k:List Nat)(hf:aB X f l)(hg:aB X g k)(h0:0<k.length)(hlk:k.length=l.length)(hl:l.length≤1000)(hc:c<256)(ht:ap X n):af 142 [vf (f),vf (.int .u8 ((c:Nat):Int)),vf (g)] X n fun v X'=>∃z,v=vf z∧aB X' z (aX l (bW c k)):=by
 refine af.of_to kr ?_
 have s0:=aa.ini ht
 have hm0:ab X X:=ab.rfl
 refine ah 1 (ai 1 (ov 8 (lv l.length hf.lenA) (go 3 ?_)))
 obtain⟨_,X1,n2,hc3,hm4,ht5,⟨z,rfl,hz⟩⟩:=(qU (c:=c) k hg h0 hc s0.topX:af 141 [vf (.int .u8 ((c:Nat):Int)),vf (g)] X (n) _)
 obtain⟨H6,hc7,s8⟩:=s0.call hc3 hm4 ht5
 have hm0:=hm0.tr hm4
 have hf:=hf.mono hm4
 refine ov 12 (jC hc7) ?_
 obtain⟨X9,_,s,m,f1,J⟩:=bj s8 (.cells [f,z] true)
 have hm0:=hm0.tr m
 have hf:=hf.mono m
 have hz:=hz.mono m
 refine ov 13 (J _ _ (vf (.sl (n2) (0) 1 (2) none))) ?_
 obtain⟨_,W,_,hc17,hm18,ht19,⟨y,rfl,hy⟩⟩:=(rI (N:=l.length) [l,bW c k] ⟨[f,z],bf f1 rfl,⟨hf,hz,trivial⟩⟩ hl sm s.topX:af 65 [vi l.length,vf (.sl (n2) (0) 1 (2) none)] X9 (n2+1) _)
 obtain⟨_,hc21,s⟩:=s.call hc17 hm18 ht19
 have hm0:=hm0.tr hm18
 refine ov 14 (jC hc21) (ax 1 ?_)
 exact⟨.inr rfl,_,kr,W,_,s,hm0,y,rfl,by rw[←FN l (bW c k)];exact hy⟩
theorem EM{H:Heap}{id i len:Nat}{fs:List F}{ex:Bool}{cap:Option Nat}(h:H id=some (.cells fs ex))(hl:len+i=fs.length)(h0:i≤fs.length):aF H 1 (.sl id (0+i*1) 1 len cap)=some (fs.drop i):=by
 simp only[aF,if_true,h]
 rw[if_pos om]
 congr 1
 rw[Nat.zero_add,Nat.mul_one,Nat.mul_one,List.take_of_length_le (by simp;omega)]
theorem BQ{X H:Heap}{n W N len im di:Nat}{fs gs:List F}(ms ds:List (List Nat))(s0:aa X H n [(im,.cells fs false),(di,.cells gs false)])(hA:aw (aB X) fs ms)(hB:aw (aB X) gs ds)(hms:Mx len W ms)(hds:Mx len N ds)(hlen:len<100000)(hW0:0<W)(hW:W≤1000)(hN0:0<N)(hN:N≤1000):
 ∃v H' n',aS Tryz.prog 93 [vi W,vf (.sl im 0 1 len none),vf (.sl di 0 1 len none),vf (.bool false)] H n v H' n'∧∃k X' fs' gs' ts,v=vi k∧aa X' H' n' [(im,.cells fs' false),(di,.cells gs' false)]∧ab X X'∧aw (aB X') fs' (aK ts ms)∧aw (aB X') gs' (aK ts ds)∧iq len ts∧k≤W∧k≤len∧Un len k (aK ts ms)∧(k<W→∀i,k≤i→i<len→bP (aK ts ms) i k=0):=by
 refine aS.of_to kr ?_
 have hm0:ab X X:=ab.rfl
 refine ah 1 (ah 1 (sq (ag ?_)))
 obtain⟨_,s,J⟩:=cu s0 (.cells [.int .i64 0] true)
 refine ov 10 (J _ _ (vf (.ptr (n) (0)))) ?_
 obtain⟨G,s1,J⟩:=dE (off:=0) (new:=[.int .i64 0]) (cs':=[.int .i64 0]) s 0 rfl sm rfl
 have s1:aa X G (n+1) [(n,.cells [.int .i64 0] true),(im,.cells (fs) false),(di,.cells (gs) false)]:=s1
 refine oe (J _ _) (aj (bk 0 (To.loop kr (aC.for (min W len) (fun i A H n=>∃(Y:Heap) (ts:List Tn) (fs:List F) (gs:List F) (bx:Nat),aL A [(0,vi W),(1,vf (.sl (im) (0) 1 (len) none)),(2,vf (.sl (di) (0) 1 (len) none)),(3,vf (.bool false)),(9,vi i),(10,vf (.ptr (bx) (0)))]∧aa Y H n [(bx,.cells [iN i] true),(im,.cells (fs) false),(di,.cells (gs) false)]∧ab X Y∧aw (aB Y) fs (aK ts ms)∧aw (aB Y) gs (aK ts ds)∧iq len ts∧Un len i (aK ts ms)) ⟨X,[],fs,gs,n,az (ts:=[0,1,2,3,9,10]) kr,s1,(hm0),(hA),(hB),(fun _ h=>by cases h),(fun _ h=>by omega)⟩ (fun i A H n hi hI=>?_) (fun A H n hI=>?_)))))
 ·obtain⟨Y,ts,fs,gs,bx,hT,s2,hm0,hA,hB,hts,hU⟩:=hI
  refine To.keep _ ?_ hT.sub
  have hiW:i<W:=by omega
  have hiN:i<len:=by omega
  have hm:=hms.runs hts
  have hd:=hds.runs hts
  have hlf:fs.length=len:=by have:=hA.length;rw[hm.1]at this;exact this.symm
  have hlg:gs.length=len:=by have:=hB.length;rw[hd.1]at this;exact this.symm
  refine sq (ag (ov 15 (am (off:=0) (x:=iN i) (s2.at 0 rfl) kr) (go 1 (ov 17 (lT i W) (go 3 (ov 21 (ln len) (ov 22 (lT i len) (ae 1 (aM (nx (aD 1 (ai 2 (ov 28 (c7 (id:=im) (off:=0) (sz:=1) (len:=len) (cap:=none) (lo:=some i) (hi:=none) (L:=len) (l:=i) (h:=len) (by rw[s2.at 1 rfl];exact congrArg some hlf) rfl rfl om om sm om) ?_)))))))))))))
  obtain⟨v,X2,n2,hc,hmX,ht2,hfi⟩:=(ye (X:=H) (g:=139) (caps:=[.ptr bx 0]) (cs:=fs.drop i) (fun j=>decide (((bc (aK ts ms) (i+j))[i]?).getD 0≠0)) (EM (len:=len-i) (s2.at 1 rfl) om om) (by simp;omega) kr (fun j x hx Y' m' hm' ht'=>by
   rw[List.getElem?_drop]at hx
   have hj:i+j<len:=by
    rcases Nat.lt_or_ge (i+j) len with h | h
    ·exact h
    ·rw[List.getElem?_eq_none om]at hx;cases hx
   obtain⟨g,hg1,hg2⟩:=hA.row (i:=i+j) (by rw[hm.1];exact hj)
   rw[hx]at hg1;cases hg1
   exact Hu _ (hg2.mono (s2.mono.tr hm')) (hm' _ _ (s2.at 0 rfl)) (by rw[(hm.row hj).1];omega) ht') s2.top:af _ [vf (.sl im (0+i*1) 1 (len-i) none),.u (.fn 139 [.ptr bx 0])] _ _ _)
  rcases hfi with⟨j,hj,hpj,_,rfl⟩|⟨hn,rfl⟩
  ·refine go 1 ?_
   obtain⟨_,_,n1,hc33,hm34,ht35,rfl⟩:=(af.same hc hmX ht2:af 66 [vf (.sl (im) (0+i*1) 1 (len-i) none),.u (.fn 139 [.ptr (bx) (0)])] H (n) _)
   have s3:=s2.callH hc33 hm34 ht35
   refine ov 30 (jC hc33) ?_
   have hj:i+j<len:=by simp at hj;omega
   have hpj:bP (aK ts ms) (i+j) i≠0:=of_decide_eq_true hpj
   refine ae 1 (aP 1 (ov 32 (lF j 0) (aj ?_)))
   obtain⟨a1,ha0,ha1⟩:=hA.row (i:=i+j) (by rw[hm.1];exact hj)
   obtain⟨b1,hb0,hb1⟩:=hA.row (i:=i) (by rw[hm.1];exact hiN)
   refine ar (nx (sq (To.draw [0,1,6,7,8,9,10,11,12,13,14,15,16,17,2,3,4,5,18,19] cX kr kr (Sd.go (L:=[9,10,11,12,13,14,15,16,17,2,3,4,5,18,19]) [0,1,6,7,8] kr (Sd.still (some 45) kr kr kr (au (eo (i) (j) om) kr) (Sd.still (some 46) kr kr kr (bD (id:=im) (off:=0) (sz:=1) (len:=len) (k:=i+j) om kr) (Sd.read (some 47) (im) kr kr kr trivial (am (id:=im) (off:=0+(i+j)*1) (x:=a1) (s3.at 1 rfl) (by rw[Nat.zero_add,Nat.mul_one];exact ha0) kr) (Sd.go (L:=[14,15,16,17,2,3,4,5,18,19]) [12,13] kr (Sd.still (some 50) kr kr kr (bD (id:=im) (off:=0) (sz:=1) (len:=len) (k:=i) om kr) (Sd.read (some 51) (im) kr kr kr trivial (am (id:=im) (off:=0+i*1) (x:=b1) (s3.at 1 rfl) (by rw[Nat.zero_add,Nat.mul_one];exact hb0) kr) (Sd.still (some 52) kr kr kr (bD (id:=im) (off:=0) (sz:=1) (len:=len) (k:=i) om kr) ?_)))))))))))
   obtain⟨G,s4,J⟩:=dE (off:=0+i*1) (new:=[a1]) (cs':=fs.set i a1) s3 1 rfl (by simp;omega) (iw om)
   have s4:aa Y G (n1) [(bx,.cells [iN i] true),(im,.cells (fs.set i a1) false),(di,.cells (gs) false)]:=s4
   refine Sd.eff none kr kr (J _ _ kr) ⟨.inl kr,.inl kr,trivial⟩ (Sd.go (L:=[5,18,19]) [2,3,4] kr (Sd.still (some 41) kr kr kr (au (eo (i) (j) om) kr) (Sd.still (some 53) kr kr kr (bD (id:=im) (off:=0) (sz:=1) (len:=len) (k:=i+j) om kr) ?_)))
   obtain⟨G,s5,J⟩:=dE (off:=0+(i+j)*1) (new:=[b1]) (cs':=(fs.set i a1).set (i+j) b1) s4 1 rfl (by simp;omega) (iw (by simp;omega))
   have s5:aa Y G (n1) [(bx,.cells [iN i] true),(im,.cells ((fs.set i a1).set (i+j) b1) false),(di,.cells (gs) false)]:=s5
   refine Sd.eff none kr kr (J _ _ kr) ⟨.inl kr,.inl kr,trivial⟩ (Sd.done ?_)
   show To Tryz.prog 93 [1,1,1,0,0,1,0,0,1,0,1,1] _ _ _ _
   obtain⟨a2,ha2,ha3⟩:=hB.row (i:=i+j) (by rw[hd.1];exact hj)
   obtain⟨b2,hb2,hb3⟩:=hB.row (i:=i) (by rw[hd.1];exact hiN)
   refine sq (To.draw [0,1,6,7,8,9,10,11,12,13,14,15,16,17,2,3,4,5,18,19] cX kr kr (Sd.go (L:=[9,10,11,12,13,14,15,16,17,2,3,4,5,18,19]) [0,1,6,7,8] kr (Sd.still (some 63) kr kr kr (au (eo (i) (j) om) kr) (Sd.still (some 64) kr kr kr (bD (id:=di) (off:=0) (sz:=1) (len:=len) (k:=i+j) om kr) (Sd.read (some 65) (di) kr kr kr trivial (am (id:=di) (off:=0+(i+j)*1) (x:=a2) (s5.at 2 rfl) (by rw[Nat.zero_add,Nat.mul_one];exact ha2) kr) (Sd.go (L:=[14,15,16,17,2,3,4,5,18,19]) [12,13] kr (Sd.still (some 68) kr kr kr (bD (id:=di) (off:=0) (sz:=1) (len:=len) (k:=i) om kr) (Sd.read (some 69) (di) kr kr kr trivial (am (id:=di) (off:=0+i*1) (x:=b2) (s5.at 2 rfl) (by rw[Nat.zero_add,Nat.mul_one];exact hb2) kr) (Sd.still (some 70) kr kr kr (bD (id:=di) (off:=0) (sz:=1) (len:=len) (k:=i) om kr) ?_)))))))))
   obtain⟨G,s6,J⟩:=dE (off:=0+i*1) (new:=[a2]) (cs':=gs.set i a2) s5 2 rfl (by simp;omega) (iw om)
   have s6:aa Y G (n1) [(bx,.cells [iN i] true),(im,.cells ((fs.set i a1).set (i+j) b1) false),(di,.cells (gs.set i a2) false)]:=s6
   refine Sd.eff none kr kr (J _ _ kr) ⟨.inl kr,.inl kr,trivial⟩ (Sd.go (L:=[5,18,19]) [2,3,4] kr (Sd.still (some 59) kr kr kr (au (eo (i) (j) om) kr) (Sd.still (some 71) kr kr kr (bD (id:=di) (off:=0) (sz:=1) (len:=len) (k:=i+j) om kr) ?_)))
   obtain⟨G,s7,J⟩:=dE (off:=0+(i+j)*1) (new:=[b2]) (cs':=(gs.set i a2).set (i+j) b2) s6 2 rfl (by simp;omega) (iw (by simp;omega))
   have s7:aa Y G (n1) [(bx,.cells [iN i] true),(im,.cells ((fs.set i a1).set (i+j) b1) false),(di,.cells ((gs.set i a2).set (i+j) b2) false)]:=s7
   refine Sd.eff none kr kr (J _ _ kr) ⟨.inl kr,.inl kr,trivial⟩ (Sd.done ?_)
   show To Tryz.prog 93 [1,1,1,1,0,0,1,0,0,1,0,1,1] _ _ _ _
   have hok1:(Tn.sw i (i+j)).ok len:=⟨hiN,hj⟩
   have hA:aw (aB Y) ((fs.set i a1).set (i+j) b1) (aK (ts++[Tn.sw i (i+j)]) ms):=by rw[fL];exact(hA.set i ha1).set (i+j) hb1
   have hB:aw (aB Y) ((gs.set i a2).set (i+j) b2) (aK (ts++[Tn.sw i (i+j)]) ds):=by rw[fL];exact(hB.set i ha3).set (i+j) hb3
   have hx0:bP (aK (ts++[Tn.sw i (i+j)]) ms) i i≠0:=by rw[fL,yp hm.1 hiN hj];by_cases e:i=i+j;rw[if_pos e];rw[←e]at hpj;exact hpj;rw[if_neg e,if_pos rfl];exact hpj
   have hU:Un len i (aK (ts++[Tn.sw i (i+j)]) ms):=by rw[fL];exact hU.sw hm om hj
   have hts:=rD hts hok1
   generalize (fs.set i a1).set (i+j) b1=fs at*
   generalize (gs.set i a2).set (i+j) b2=gs at*
   generalize ts++[Tn.sw i (i+j)]=ts at*
   have hm:=hms.runs hts
   have hd:=hds.runs hts
   have hlf:fs.length=len:=by have:=hA.length;rw[hm.1]at this;exact this.symm
   have hlg:gs.length=len:=by have:=hB.length;rw[hd.1]at this;exact this.symm
   obtain⟨i1,hi0,hi1⟩:=hA.row (i:=i) (by rw[hm.1];exact hiN)
   obtain⟨i2,hi3,hi2⟩:=hB.row (i:=i) (by rw[hd.1];exact hiN)
   obtain⟨qi,qo,qc,rfl,hqat⟩:=hi1.at (k:=i) (by rw[(hm.row hiN).1];exact hiW)
   have hql:(bc (aK ts ms) i).length=W:=(hm.row hiN).1
   refine sq (To.draw [0,1,2,3,4,5,6,7,8] cX kr kr (Sd.go (L:=[2,3,4,5,6,7,8]) [0,1] kr (Sd.still (some 74) kr kr kr (bD (id:=im) (off:=0) (sz:=1) (len:=len) (k:=i) om kr) (Sd.read (some 75) (im) kr kr kr trivial (am (id:=im) (off:=0+i*1) (x:=.sl (qi) (qo) 1 ((bc (aK ts ms) i).length) qc) (s7.at 1 rfl) (by rw[Nat.zero_add,Nat.mul_one];exact hi0) kr) (Sd.read (some 76) (bx) kr kr kr trivial (am (off:=0) (x:=iN i) (s7.at 0 rfl) kr kr) (Sd.still (some 77) kr kr kr (bD (id:=qi) (off:=qo) (sz:=1) (len:=(bc (aK ts ms) i).length) (k:=i) om kr) (Sd.read (some 78) (qi) kr kr kr trivial (eq (id:=qi) (off:=qo+i*1) (x:=.int .u8 ((bP (aK ts ms) i i:Nat):Int)) (by rw[Nat.mul_one];exact hqat.mono (s7.mono _)) kr) (Sd.eff (some 79) kr kr (b_ kr (yl (bP (aK ts ms) i i) (fh hm hiN) G (n1)) kr) ⟨.inl kr,.inl kr,.inl kr,trivial⟩ (Sd.go (L:=[]) [8] kr (Sd.done ?_))))))))))
   show To Tryz.prog 93 [1,1,1,1,1,0,0,1,0,0,1,0,1,1] _ _ _ _
   refine sq (To.draw [4,5,6,7,8,9,10,11,12,13,14,15,0,1,16,17,2,3,18,19] cX kr kr (Sd.go (L:=[7,8,9,10,11,12,13,14,15,0,1,16,17,2,3,18,19]) [4,5,6] kr (Sd.still (some 87) kr kr kr (bD (id:=im) (off:=0) (sz:=1) (len:=len) (k:=i) om kr) (Sd.read (some 88) (im) kr kr kr trivial (am (id:=im) (off:=0+i*1) (x:=.sl (qi) (qo) 1 ((bc (aK ts ms) i).length) qc) (s7.at 1 rfl) (by rw[Nat.zero_add,Nat.mul_one];exact hi0) kr) ?_))))
   obtain⟨_,Z,n3,hc51,hm52,ht53,⟨z1,rfl,hz1⟩⟩:=(qU (c:=iv (bP (aK ts ms) i i)) _ hi1 (by rw[(hm.row hiN).1];omega) (jh (fh hm hiN)) s7.topX:af 141 [vf (.int .u8 ((iv (bP (aK ts ms) i i):Nat):Int)),vf (.sl (qi) (qo) 1 ((bc (aK ts ms) i).length) qc)] Y (n1) _)
   obtain⟨_,hc55,s8⟩:=s7.call hc51 hm52 ht53
   have hm0:=hm0.tr hm52
   have hA:=hA.mono fun _ _ q=>q.mono hm52
   have hB:=hB.mono fun _ _ q=>q.mono hm52
   have hi1:=hi1.mono hm52
   have hi2:=hi2.mono hm52
   refine Sd.eff (some 89) kr kr (b_ kr hc55 kr) ⟨.inl kr,trivial⟩ (Sd.go (L:=[13,14,15,0,1,16,17,2,3,18,19]) [10,11,12] kr (Sd.still (some 93) kr kr kr (bD (id:=di) (off:=0) (sz:=1) (len:=len) (k:=i) om kr) (Sd.read (some 94) (di) kr kr kr ⟨ke (s7.at 2 rfl) (s8.at 2 rfl),trivial⟩ (am (id:=di) (off:=0+i*1) (x:=i2) (s8.at 2 rfl) (by rw[Nat.zero_add,Nat.mul_one];exact hi3) kr) ?_)))
   obtain⟨_,Z,n4,hc59,hm60,ht61,⟨z2,rfl,hz2⟩⟩:=(qU (c:=iv (bP (aK ts ms) i i)) _ hi2 (by rw[(hd.row hiN).1];omega) (jh (fh hm hiN)) s8.topX:af 141 [vf (.int .u8 ((iv (bP (aK ts ms) i i):Nat):Int)),vf (i2)] Z (n3) _)
   obtain⟨_,hc63,s9⟩:=s8.call hc59 hm60 ht61
   have hm0:=hm0.tr hm60
   have hA:=hA.mono fun _ _ q=>q.mono hm60
   have hB:=hB.mono fun _ _ q=>q.mono hm60
   have hi1:=hi1.mono hm60
   have hi2:=hi2.mono hm60
   have hz1:=hz1.mono hm60
   refine Sd.eff (some 95) kr kr (b_ kr hc63 kr) ⟨.inl kr,.inl kr,trivial⟩ (Sd.go (L:=[16,17,2,3,18,19]) [0,1] kr (Sd.still (some 96) kr kr kr (bD (id:=im) (off:=0) (sz:=1) (len:=len) (k:=i) om kr) ?_))
   obtain⟨G,s10,J⟩:=dE (off:=0+i*1) (new:=[z1]) (cs':=fs.set i z1) s9 1 rfl (by simp;omega) (iw om)
   have s10:aa Z G (n4) [(bx,.cells [iN i] true),(im,.cells (fs.set i z1) false),(di,.cells (gs) false)]:=s10
   refine Sd.eff none kr kr (J _ _ kr) ⟨.inl kr,.inl kr,trivial⟩ (Sd.go (L:=[18,19]) [2,3] kr (Sd.still (some 97) kr kr kr (bD (id:=di) (off:=0) (sz:=1) (len:=len) (k:=i) om kr) ?_))
   obtain⟨G,s11,J⟩:=dE (off:=0+i*1) (new:=[z2]) (cs':=gs.set i z2) s10 2 rfl (by simp;omega) (iw om)
   have s11:aa Z G (n4) [(bx,.cells [iN i] true),(im,.cells (fs.set i z1) false),(di,.cells (gs.set i z2) false)]:=s11
   refine Sd.eff none kr kr (J _ _ kr) ⟨.inl kr,.inl kr,trivial⟩ (Sd.done ?_)
   show To Tryz.prog 93 [1,1,1,1,1,1,0,0,1,0,0,1,0,1,1] _ _ _ _
   have hok2:(Tn.sc i (iv (bP (aK ts ms) i i))).ok len:=⟨hiN,jh (fh hm hiN),zq (fh hm hiN) hx0⟩
   have hA:aw (aB Z) (fs.set i z1) (aK (ts++[Tn.sc i (iv (bP (aK ts ms) i i))]) ms):=by rw[fL];exact hA.set i hz1
   have hB:aw (aB Z) (gs.set i z2) (aK (ts++[Tn.sc i (iv (bP (aK ts ms) i i))]) ds):=by rw[fL];exact hB.set i hz2
   have hZ:Clr i 0 (aK (ts++[Tn.sc i (iv (bP (aK ts ms) i i))]) ms):=⟨by rw[fL,xC hm.1 hiN,if_pos rfl,gm_comm (jh (fh hm hiN)) (fh hm hiN)];exact(tp (fh hm hiN) hx0).1,fun r h=>by omega⟩
   have hU:Un len i (aK (ts++[Tn.sc i (iv (bP (aK ts ms) i i))]) ms):=by rw[fL];exact hU.sc hm hiN
   have hts:=rD hts hok2
   refine aP 1 (ov 99 (ln len) (ae 1 (bk 2 (To.loop kr (aC.for (len) (fun q A H n=>∃(Y:Heap) (ts:List Tn) (fs:List F) (gs:List F),aL A [(0,vi W),(1,vf (.sl (im) (0) 1 (len) none)),(2,vf (.sl (di) (0) 1 (len) none)),(3,vf (.bool false)),(9,vi i),(10,vf (.ptr (bx) (0))),(99,vi len),(100,vi q)]∧aa Y H n [(bx,.cells [iN i] true),(im,.cells (fs) false),(di,.cells (gs) false)]∧ab X Y∧aw (aB Y) fs (aK ts ms)∧aw (aB Y) gs (aK ts ds)∧iq len ts∧Un len i (aK ts ms)∧Clr i q (aK ts ms)) ⟨Z,_,_,_,az (ts:=[0,1,2,3,9,10,99,100]) kr,s11,(hm0),(hA),(hB),(hts),(hU),(hZ)⟩ (fun q A H n hi hI=>?_) (fun A H n hI=>?_))))))
   ·obtain⟨Y,ts,fs,gs,hT,s12,hm0,hA,hB,hts,hU,hZ⟩:=hI
    refine To.keep _ ?_ hT.sub
    have hm:=hms.runs hts
    have hd:=hds.runs hts
    have hlf:fs.length=len:=by have:=hA.length;rw[hm.1]at this;exact this.symm
    have hlg:gs.length=len:=by have:=hB.length;rw[hd.1]at this;exact this.symm
    obtain⟨q1,hq0,hq1⟩:=hA.row (i:=q) (by rw[hm.1];exact hi)
    obtain⟨i1,hi0,hi1⟩:=hA.row (i:=i) (by rw[hm.1];exact hiN)
    obtain⟨q2,hq3,hq2⟩:=hB.row (i:=q) (by rw[hd.1];exact hi)
    obtain⟨i2,hi3,hi2⟩:=hB.row (i:=i) (by rw[hd.1];exact hiN)
    obtain⟨qi,qo,qc,rfl,hqat⟩:=hq1.at (k:=i) (by rw[(hm.row hi).1];exact hiW)
    have hql:(bc (aK ts ms) q).length=W:=(hm.row hi).1
    refine ag (ov 101 (lT q len) (aQ (aM (nx (aD 3 (ah 2 (sq (To.draw [0,1,2,3,4,5,6,7] cX kr kr (Sd.go (L:=[2,3,4,5,6,7]) [0,1] kr (Sd.still (some 105) kr kr kr (bD (id:=im) (off:=0) (sz:=1) (len:=len) (k:=q) om kr) (Sd.read (some 106) (im) kr kr kr trivial (am (id:=im) (off:=0+q*1) (x:=.sl (qi) (qo) 1 ((bc (aK ts ms) q).length) qc) (s12.at 1 rfl) (by rw[Nat.zero_add,Nat.mul_one];exact hq0) kr) (Sd.read (some 107) (bx) kr kr kr trivial (am (off:=0) (x:=iN i) (s12.at 0 rfl) kr kr) (Sd.still (some 108) kr kr kr (bD (id:=qi) (off:=qo) (sz:=1) (len:=(bc (aK ts ms) q).length) (k:=i) om kr) (Sd.read (some 109) (qi) kr kr kr trivial (eq (id:=qi) (off:=qo+i*1) (x:=.int .u8 ((bP (aK ts ms) q i:Nat):Int)) (by rw[Nat.mul_one];exact hqat.mono (s12.mono _)) kr) (Sd.go (L:=[]) [7] kr (Sd.done ?_))))))))))))))))
    show To Tryz.prog 93 [1,1,0,0,1,1,0,0,1,0,1,1,1,1,1,1,0,0,1,0,0,1,0,1,1] _ _ _ _
    by_cases hqi:q=i
    ·refine ai 2 (ov 112 (uF q i) (ae 4 (ar (nx (rg (ov 143 (aN q 1) (aR 1 ?_)))))))
     exact .inl ⟨rfl,Y,_,_,_,az (ts:=[0,1,2,3,9,10,99,100]) kr,s12,(hm0),(hA),(hB),(hts),(hU),(hZ.skip (.inl hqi))⟩
    ·by_cases hq:bP (aK ts ms) q i=0
     ·refine ai 2 (ov 112 (uT q i) (go 2 (ov 115 (au (gg .u8 (x:=((bP (aK ts ms) q i:Nat):Int)) (y:=(0:Int)) om)) (ae 1 (ar (nx (rg (ov 143 (aN q 1) (aR 1 ?_)))))))))
      exact .inl ⟨rfl,Y,_,_,_,az (ts:=[0,1,2,3,9,10,99,100]) kr,s12,(hm0),(hA),(hB),(hts),(hU),(hZ.skip (.inr hq))⟩
     ·refine ai 2 (ov 112 (uT q i) (go 2 (ov 115 (au (lB .u8 (x:=((bP (aK ts ms) q i:Nat):Int)) (y:=(0:Int)) om)) (ae 1 (iT (To.draw [4,5,6,7,8,9,10,11,12,13,14,15,16,17,18,19,20,21,22,23,0,1,24,25,2,3,26,27] cX kr kr (Sd.go (L:=[6,7,8,9,10,11,12,13,14,15,16,17,18,19,20,21,22,23,0,1,24,25,2,3,26,27]) [4,5] kr (Sd.still (some 123) kr kr kr (bD (id:=im) (off:=0) (sz:=1) (len:=len) (k:=q) om kr) (Sd.read (some 124) (im) kr kr kr trivial (am (id:=im) (off:=0+q*1) (x:=.sl (qi) (qo) 1 ((bc (aK ts ms) q).length) qc) (s12.at 1 rfl) (by rw[Nat.zero_add,Nat.mul_one];exact hq0) kr) (Sd.go (L:=[11,12,13,14,15,16,17,18,19,20,21,22,23,0,1,24,25,2,3,26,27]) [8,9,10] kr (Sd.still (some 128) kr kr kr (bD (id:=im) (off:=0) (sz:=1) (len:=len) (k:=i) om kr) (Sd.read (some 129) (im) kr kr kr trivial (am (id:=im) (off:=0+i*1) (x:=i1) (s12.at 1 rfl) (by rw[Nat.zero_add,Nat.mul_one];exact hi0) kr) ?_))))))))))))
      obtain⟨_,Z,n5,hc74,hm75,ht76,⟨z1,rfl,hz1⟩⟩:=(ul (c:=bP (aK ts ms) q i) _ _ hq1 hi1 (by rw[(hm.row hiN).1];omega) (by rw[(hm.row hiN).1,(hm.row hi).1]) (by rw[(hm.row hi).1];exact hW) (fh hm hi) s12.topX:af 142 [vf (.sl (qi) (qo) 1 ((bc (aK ts ms) q).length) qc),vf (.int .u8 ((bP (aK ts ms) q i:Nat):Int)),vf (i1)] Y (n) _)
      obtain⟨_,hc78,s13⟩:=s12.call hc74 hm75 ht76
      have hm0:=hm0.tr hm75
      have hA:=hA.mono fun _ _ q=>q.mono hm75
      have hB:=hB.mono fun _ _ q=>q.mono hm75
      have hq2:=hq2.mono hm75
      have hi2:=hi2.mono hm75
      refine Sd.eff (some 130) kr kr (b_ kr hc78 kr) ⟨.inl kr,.inl kr,trivial⟩ (Sd.go (L:=[16,17,18,19,20,21,22,23,0,1,24,25,2,3,26,27]) [14,15] kr (Sd.still (some 133) kr kr kr (bD (id:=di) (off:=0) (sz:=1) (len:=len) (k:=q) om kr) (Sd.read (some 134) (di) kr kr kr ⟨ke (s12.at 2 rfl) (s13.at 2 rfl),trivial⟩ (am (id:=di) (off:=0+q*1) (x:=q2) (s13.at 2 rfl) (by rw[Nat.zero_add,Nat.mul_one];exact hq3) kr) (Sd.go (L:=[21,22,23,0,1,24,25,2,3,26,27]) [18,19,20] kr (Sd.still (some 138) kr kr kr (bD (id:=di) (off:=0) (sz:=1) (len:=len) (k:=i) om kr) (Sd.read (some 139) (di) kr kr kr ⟨ke (s12.at 2 rfl) (s13.at 2 rfl),trivial⟩ (am (id:=di) (off:=0+i*1) (x:=i2) (s13.at 2 rfl) (by rw[Nat.zero_add,Nat.mul_one];exact hi3) kr) ?_))))))
      obtain⟨_,Z,n6,hc82,hm83,ht84,⟨z2,rfl,hz2⟩⟩:=(ul (c:=bP (aK ts ms) q i) _ _ hq2 hi2 (by rw[(hd.row hiN).1];omega) (by rw[(hd.row hiN).1,(hd.row hi).1]) (by rw[(hd.row hi).1];exact hN) (fh hm hi) s13.topX:af 142 [vf (q2),vf (.int .u8 ((bP (aK ts ms) q i:Nat):Int)),vf (i2)] Z (n5) _)
      obtain⟨_,hc86,s14⟩:=s13.call hc82 hm83 ht84
      have hm0:=hm0.tr hm83
      have hA:=hA.mono fun _ _ q=>q.mono hm83
      have hB:=hB.mono fun _ _ q=>q.mono hm83
      have hz1:=hz1.mono hm83
      refine Sd.eff (some 140) kr kr (b_ kr hc86 kr) ⟨.inl kr,.inl kr,.inl kr,.inl kr,trivial⟩ (Sd.go (L:=[24,25,2,3,26,27]) [0,1] kr (Sd.still (some 141) kr kr kr (bD (id:=im) (off:=0) (sz:=1) (len:=len) (k:=q) om kr) ?_))
      obtain⟨G,s15,J⟩:=dE (off:=0+q*1) (new:=[z1]) (cs':=fs.set q z1) s14 1 rfl (by simp;omega) (iw om)
      have s15:aa Z G (n6) [(bx,.cells [iN i] true),(im,.cells (fs.set q z1) false),(di,.cells (gs) false)]:=s15
      refine Sd.eff none kr kr (J _ _ kr) ⟨.inl kr,.inl kr,.inl kr,.inl kr,trivial⟩ (Sd.go (L:=[26,27]) [2,3] kr (Sd.still (some 142) kr kr kr (bD (id:=di) (off:=0) (sz:=1) (len:=len) (k:=q) om kr) ?_))
      obtain⟨G,s16,J⟩:=dE (off:=0+q*1) (new:=[z2]) (cs':=gs.set q z2) s15 2 rfl (by simp;omega) (iw om)
      have s16:aa Z G (n6) [(bx,.cells [iN i] true),(im,.cells (fs.set q z1) false),(di,.cells (gs.set q z2) false)]:=s16
      refine Sd.eff none kr kr (J _ _ kr) ⟨.inl kr,.inl kr,.inl kr,.inl kr,trivial⟩ (Sd.done ?_)
      show To Tryz.prog 93 [1,1,1,0,0,1,0,1,1,1,1,1,1,0,0,1,0,0,1,0,1,1] _ _ _ _
      have hok:(Tn.ad q (bP (aK ts ms) q i) i).ok len:=⟨hi,hiN,hqi,fh hm hi⟩
      refine rg (ov 143 (aN q 1) (aR 1 ?_))
      exact .inl ⟨rfl,Z,ts++[Tn.ad q (bP (aK ts ms) q i) i],_,_,az (ts:=[0,1,2,3,9,10,99,100]) kr,s16,(hm0),(by rw[fL];exact hA.set q hz1),(by rw[fL];exact hB.set q hz2),(rD hts hok),(by rw[fL];exact hU.ad hm hiN hi (fh hm hi)),(by rw[fL];exact hZ.ad hm hiN hi hqi rfl)⟩
   ·obtain⟨Y,ts,fs,gs,hT,s17,hm0,hA,hB,hts,hU,hZ⟩:=hI
    refine To.keep _ ?_ hT.sub
    have hm:=hms.runs hts
    have hd:=hds.runs hts
    have hlf:fs.length=len:=by have:=hA.length;rw[hm.1]at this;exact this.symm
    have hlg:gs.length=len:=by have:=hB.length;rw[hd.1]at this;exact this.symm
    refine ag (ov 101 (au (cr .i64 (x:=((len:Nat):Int)) (y:=((len:Nat):Int)) sm)) (aQ (iF (To.exit 2 kr ?_))))
    refine⟨sm,?_⟩
    show To Tryz.prog 93 [1,1,1,1,1,1,1,0,0,1,0,0,1,0,1,1] _ _ _ _
    refine rg (go 1 (ov 145 (aN i 1) (ae 1 (sq (ag (ov 146 (am (off:=0) (x:=iN i) (s17.at 0 rfl) kr) (aj (rg ?_))))))))
    obtain⟨_,s18,J⟩:=cu s17 (.cells [.int .i64 0] true)
    refine ov 10 (J _ _ (vf (.ptr (n) (0)))) ?_
    obtain⟨G,s19,J⟩:=dE (off:=0) (new:=[iN i]) (cs':=[iN i]) s18 0 rfl sm rfl
    have s19:aa Y G (n+1) [(n,.cells [iN i] true),(bx,.cells [iN i] true),(im,.cells (fs) false),(di,.cells (gs) false)]:=s19
    refine oe (J _ _) (aj (rg (ov 24 (am (off:=0) (x:=iN i) (s19.at 0 rfl) kr) (ov 25 (aN i 1) ?_))))
    obtain⟨G,s20,J⟩:=dE (off:=0) (new:=[iN (i+1)]) (cs':=[iN (i+1)]) s19 0 rfl sm rfl
    have s20:aa Y G (n+1) [(n,.cells [iN (i+1)] true),(bx,.cells [iN i] true),(im,.cells (fs) false),(di,.cells (gs) false)]:=s20
    refine oe (J _ _) (dn ?_)
    exact .inl ⟨rfl,Y,_,_,_,_,az (ts:=[0,1,2,3,9,10]) kr,(s20.del 1),(hm0),(hA),(hB),(hts),(hU.next hZ)⟩
  ·refine go 1 ?_
   obtain⟨_,_,_,hc106,hm107,ht108,rfl⟩:=(af.same hc hmX ht2:af 66 [vf (.sl (im) (0+i*1) 1 (len-i) none),.u (.fn 139 [.ptr (bx) (0)])] H (n) _)
   have s21:=s2.callH hc106 hm107 ht108
   refine ov 30 (jC hc106) (ae 1 (aP 1 (ov 32 (au (eK .i64 (x:=(-1:Int)) (y:=(0:Int)) om)) (aj (iT (sq (ah 2 (iT (ah 2 (rt (.inr ⟨sm,?_⟩)))))))))))
   exact⟨.inr rfl,_,kr,i,Y,_,_,ts,rfl,s21.del 0,hm0,hA,hB,hts,om,om,hU,fun _ r hr1 hr2=>by have h3:=of_decide_eq_false (hn (r-i) (by simp;omega));rw[show i+(r-i)=r by omega]at h3;exact Classical.byContradiction h3⟩
 ·obtain⟨Y,ts,fs,gs,bx,hT,s22,hm0,hA,hB,hts,hU⟩:=hI
  refine To.keep _ ?_ hT.sub
  have hm:=hms.runs hts
  have hd:=hds.runs hts
  have hlf:fs.length=len:=by have:=hA.length;rw[hm.1]at this;exact this.symm
  have hlg:gs.length=len:=by have:=hB.length;rw[hd.1]at this;exact this.symm
  rcases Nat.lt_or_ge len W with hlW | hlW
  ·refine sq (ag (ov 15 (am (off:=0) (x:=iN (min W len)) (s22.at 0 rfl) kr) (go 1 (ov 17 (lT (min W len) W) (go 3 (ov 21 (ln len) (ov 22 (lF (min W len) len) (ae 1 (iF (To.exit 0 kr ?_))))))))))
   refine⟨sm,?_⟩
   show To Tryz.prog 93 [1,1,1] _ _ _ _
   refine ah 2 (rt ?_)
   exact⟨.inr rfl,_,kr,min W len,Y,_,_,ts,rfl,s22.del 0,hm0,hA,hB,hts,om,om,hU,fun _ r _ _=>by omega⟩
  ·refine sq (ag (ov 15 (am (off:=0) (x:=iN (min W len)) (s22.at 0 rfl) kr) (go 1 (ov 17 (lF (min W len) W) (ae 6 (iF (To.exit 0 kr ?_)))))))
   refine⟨sm,?_⟩
   show To Tryz.prog 93 [1,1,1] _ _ _ _
   refine ah 2 (rt ?_)
   exact⟨.inr rfl,_,kr,min W len,Y,_,_,ts,rfl,s22.del 0,hm0,hA,hB,hts,om,om,hU,fun _ r _ _=>by omega⟩
end Go.Proofs.YtkimkgbppegkhaaGreat.Cm
