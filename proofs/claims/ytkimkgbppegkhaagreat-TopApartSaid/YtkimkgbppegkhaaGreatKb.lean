/- The clean machine's walks of stores (4): which record is ahead, where one is, and whether there is room. · The clean machine's walks of keys: some key of any numbers, and which of two is nearer, whatever it be. -/
import Derived.Test.YtkimkgbppegkhaaGreatSc
set_option linter.unusedVariables false
set_option linter.unusedSimpArgs false
namespace Go.Proofs.YtkimkgbppegkhaaGreat.Cm
open Go Go.RowKit Go.Proofs.YtkimkgbppegkhaaGreat.Gf
set_option maxRecDepth 1000000
def zo(H:Heap)(f:F)(l:List Int):Prop:=aF H 1 f=some (l.map fun z=>.int .i64 z)
def bA:Rg→Nat×Nat×Nat×Nat
 |.sy ip ik _ _ _ _ b e _=>(ip,ik,b,e)
 |.tb ip ik _=>(ip,ik,0,0)
theorem aV.ex2{X:Heap}{r:Rg}{c:List F}(h:aV X r c):∃x2 x3 x4 x7 x8 x9:F,c=[iN (bA r).1,iN (bA r).2.1,x2,x3,x4,iN (bA r).2.2.1,iN (bA r).2.2.2,x7,x8,x9]:=by
 cases r with
 |sy ip ik u B N M b e d=>obtain⟨g,rfl,_⟩:=h;exact⟨_,_,_,_,_,_,rfl⟩
 |tb ip ik u=>have h:c=_:=h;subst h;exact⟨_,_,_,_,_,_,rfl⟩
theorem vA{X:Heap}{n:Nat}{a:Nat}(ht:ap X n):af 256 [vi a] X n fun v _=>v=vf (.bool false):=by
 refine af.of_to kr ?_
 have s0:aa X X n (cat [[]]):=aa.ini ht
 have hm0:ab X X:=ab.rfl
 refine ah 1 (ai 2 (ov 5 (uF a a) (ax 1 ?_)))
 exact⟨.inr rfl,_,kr,X,_,s0,hm0,rfl⟩
theorem nY{X:Heap}{n:Nat}{a b:Nat}(ht:ap X n):af 250 [vi a,vi b] X n fun v _=>∃z:Int,v=vf (.int .i64 z)∧(z=0↔a=b):=by
 refine af.of_to kr ?_
 have s0:aa X X n (cat [[]]):=aa.ini ht
 have hm0:ab X X:=ab.rfl
 refine ah 1 (ai 1 ?_)
 obtain⟨_,_,_,_,m,s,J,rfl⟩:=(vA (a:=a) s0.topX).on s0
 refine ov 8 (J _ _) (ae 1 (ai 1 ?_))
 obtain⟨_,W,_,_,m1,s,J,rfl⟩:=(vA (a:=b) s.topX).on s
 have hm0:=hm0.tr (m.tr m1)
 refine ov 10 (J _ _) ?_
 rcases Nat.lt_trichotomy a b with h | h | h
 ·refine ae 1 (sq (ah 1 (ar (nx (sq (ah 1 (ar (nx (aP 2 (ov 16 (lT a b) (aj (iT (ah 1 (rt ?_))))))))))))))
  exact⟨.inr rfl,vf (.int .i64 (-1)),kr,W,_,s,hm0,-1,rfl,om⟩
 ·refine ae 1 (sq (ah 1 (ar (nx (sq (ah 1 (ar (nx (aP 2 (ov 16 (lF a b) (aj (ar (nx (aP 2 (ov 19 (gF a b) (aj (ar (nx (ah 1 (rt ?_))))))))))))))))))))
  exact⟨.inr rfl,vf (.int .i64 0),kr,W,_,s,hm0,0,rfl,om⟩
 ·refine ae 1 (sq (ah 1 (ar (nx (sq (ah 1 (ar (nx (aP 2 (ov 16 (lF a b) (aj (ar (nx (aP 2 (ov 19 (gT a b) (aj (iT (ah 1 (rt ?_)))))))))))))))))))
  exact⟨.inr rfl,vf (.int .i64 1),kr,W,_,s,hm0,1,rfl,om⟩
theorem yw{X:Heap}{n:Nat}{f:F}{l:List Int}(hr:zo X f l)(hlt:l.length<1000)(ht:ap X n):af 248 [vf (f)] X n fun v _=>∃z:Int,v=vf (.int .i64 z)∧(z=0↔∀q∈l,q=0):=by
 refine af.of_to kr ?_
 have s0:aa X X n (cat [[]]):=aa.ini ht
 have hm0:ab X X:=ab.rfl
 refine ah 1 (ah 1 (aP 1 (ov 7 (lv l.length ((cQ hr).trans sm)) (ae 1 (bk 0 (lp (aC.for (l.length) (fun i A Hq nq=>∃(Y:Heap),aL A [(3,vf (.int .i64 0)),(6,vf (f)),(7,vi l.length),(8,vi i)]∧aa Y Hq nq (cat [[]])∧(ab X Y)∧(zo Y f l)∧(∀j (h:j<i) (h2:j<l.length),l[j]=0)) ⟨X,az (ts:=[3,6,7,8]) kr,s0,(hm0),(hr),(fun j h=>by omega)⟩ (fun i A H n1 hi hI=>?_) (fun A H n1 hI=>?_))))))))
 ·obtain⟨Y,hT,s,hm0,hr,hz⟩:=hI
  refine To.keep _ ?_ hT.sub
  obtain⟨id,off,cap,rfl,hat⟩:=cW hr (by simp;omega)
  refine ag (ov 9 (lT i l.length) (aj ?_))
  have hll:(l.map fun z=>F.int .i64 z).length=l.length:=by simp
  refine sq (aM (nx (aD 1 (ag (ov 10 (ix id off 1 ((l.map fun z=>F.int .i64 z).length) i) (ov 11 (lx id (off+i*1) (.int .i64 l[i]) (by rw[Nat.mul_one];exact(hat i _ (by simp[hi])).mono (s.mono _))) ?_))))))
  by_cases hq:l[i]=0
  ·refine ae 1 (ai 2 (ov 14 (au (gg .i64 (x:=(l[i])) (y:=(0:Int)) om)) (aj (ar (nx (rg (ov 16 (aN i 1) (aR 1 ?_))))))))
   exact .inl ⟨rfl,Y,az (ts:=[3,6,7,8]) kr,s,(hm0),(hr),(fun j h h2=>by
    rcases Nat.lt_or_ge j i with g | g
    ·exact hz j g h2
    ·obtain rfl:j=i:=by omega
     exact hq)⟩
  ·refine ae 1 (ai 2 (ov 14 (au (lB .i64 (x:=(l[i])) (y:=(0:Int)) om)) (aj (iT (ah 2 (rt (.inr ⟨sm,?_⟩)))))))
   exact⟨.inr rfl,vf (.int .i64 l[i]),kr,Y,_,s,hm0,_,rfl,fun h=>absurd h hq,fun h=>absurd (h _ (List.getElem_mem hi)) hq⟩
 ·obtain⟨Y,hT,s,hm0,hr,hz⟩:=hI
  refine To.keep _ ?_ hT.sub
  refine ag (ov 9 (lF l.length l.length) (aQ (iF (xt 0 ?_))))
  refine⟨sm,?_⟩
  show To Tryz.prog 248 [1,1,1] _ _ _ _
  refine ah 2 (rt ?_)
  exact⟨.inr rfl,vf (.int .i64 0),kr,Y,_,s,hm0,_,rfl,fun _ z hz2=>by obtain⟨j,hj,rfl⟩:=List.mem_iff_getElem.1 hz2;exact hz j hj hj,fun _=>rfl⟩
theorem DW{X:Heap}{n:Nat}{a b c d:Nat}(ht:ap X n):af 249 [.u (.agg [iN a,iN b]),.u (.agg [iN c,iN d])] X n fun v _=>∃z:Int,v=vf (.int .i64 z)∧(z=0↔a=c∧b=d):=by
 refine af.of_to kr ?_
 have s0:aa X X n (cat [[]]):=aa.ini ht
 have hm0:ab X X:=ab.rfl
 refine ag ?_
 obtain⟨_,s,J⟩:=ay s0 (.cells [iN a,iN b] true)
 refine ov 2 (J _ _ (vf (.ptr (n) (0)))) ?_
 obtain⟨_,s1,J⟩:=ay s (.cells [iN c,iN d] true)
 refine ov 3 (J _ _ (vf (.ptr (n+1) (0)))) (ae 1 (sq (dw [0,1,2,3,4,5,6,7,8,9,10,11,12] (sg [0] (sr (some 6) (n) trivial (am (off:=0) (s1.at 1 rfl) rfl) (sg [2] (sr (some 8) (n+1) trivial (am (off:=0) (s1.at 0 rfl) rfl) ?_)))))))
 obtain⟨_,_,_,_,m,s2,J,⟨z1,rfl,hz1⟩⟩:=(nY (a:=a) (b:=c) s1.topX).on s1
 refine sf (some 9) (J _ _) (oR kr) (sg [5] (sr (some 11) (n) ⟨ke (s1.at 1 rfl) (s2.at 1 rfl),trivial⟩ (am (off:=1) (s2.at 1 rfl) rfl) (sg [7] (sr (some 13) (n+1) ⟨ke (s1.at 0 rfl) (s2.at 0 rfl),trivial⟩ (am (off:=1) (s2.at 0 rfl) rfl) ?_))))
 obtain⟨_,_,_,n1,m1,s3,J,⟨z2,rfl,hz2⟩⟩:=(nY (a:=b) (b:=d) s2.topX).on s2
 refine sf (some 14) (J _ _) (oR kr) ?_
 obtain⟨_,_,s4,m2,f,J⟩:=bj s3 (.cells [.int .i64 (z1),.int .i64 (z2)] true)
 refine sf (some 15) (J _ _ (vf (.sl (n1) (0) 1 (2) none))) (oR kr) ?_
 obtain⟨_,W,_,_,m3,s5,J,⟨z,rfl,hz⟩⟩:=(yw (l:=[z1,z2]) (bf (len:=2) (cap:=none) f rfl) sm s4.topX).on s4
 have hm0:=hm0.tr (m.tr (m1.tr (m2.tr m3)))
 refine sf (some 16) (J _ _) (oR kr) (sg [12] (sx (nx (rt ?_))))
 exact⟨.inr rfl,vf (.int .i64 z),kr,W,_,s5,hm0,z,rfl,by rw[hz,←hz1,←hz2];simp⟩
theorem Fp{X:Heap}{n:Nat}{r q:Rg}{x2 x3 x4 x7 x8 x9 y2 y3 y4 y7 y8 y9:F}(ht:ap X n):af 241 [.u (.agg [iN ((bA r).1),iN ((bA r).2.1),x2,x3,x4,iN ((bA r).2.2.1),iN ((bA r).2.2.2),x7,x8,x9]),.u (.agg [iN ((bA q).1),iN ((bA q).2.1),y2,y3,y4,iN ((bA q).2.2.1),iN ((bA q).2.2.2),y7,y8,y9])] X n fun v _=>∃z:Int,v=vf (.int .i64 z)∧(z=0↔bA r=bA q):=by
 refine af.of_to kr ?_
 have s0:aa X X n (cat [[]]):=aa.ini ht
 have hm0:ab X X:=ab.rfl
 refine ag ?_
 obtain⟨_,s,J⟩:=ay s0 (.cells [iN ((bA r).1),iN ((bA r).2.1),x2,x3,x4,iN ((bA r).2.2.1),iN ((bA r).2.2.2),x7,x8,x9] true)
 refine ov 2 (J _ _ (vf (.ptr (n) (0)))) ?_
 obtain⟨_,s1,J⟩:=ay s (.cells [iN ((bA q).1),iN ((bA q).2.1),y2,y3,y4,iN ((bA q).2.2.1),iN ((bA q).2.2.2),y7,y8,y9] true)
 refine ov 3 (J _ _ (vf (.ptr (n+1) (0)))) (ae 1 (sq (dw [0,1,2,3,4,5,6,7,8,9,10,11,12,13,14,15,16,17] (sg [0] (sr (some 6) (n) trivial (aG (off:=0) (sz:=2) (c:=[iN ((bA r).1),iN ((bA r).2.1)]) (s1.at 1 rfl) sm rfl) (sg [2] (sr (some 8) (n+1) trivial (aG (off:=0) (sz:=2) (c:=[iN ((bA q).1),iN ((bA q).2.1)]) (s1.at 0 rfl) sm rfl) ?_)))))))
 obtain⟨_,_,_,_,m,s2,J,⟨z1,rfl,hz1⟩⟩:=(DW (a:=(bA r).1) (b:=(bA r).2.1) (c:=(bA q).1) (d:=(bA q).2.1) s1.topX).on s1
 refine sf (some 9) (J _ _) (oR kr) (sg [5] (sr (some 11) (n) ⟨ke (s1.at 1 rfl) (s2.at 1 rfl),trivial⟩ (am (off:=5) (s2.at 1 rfl) rfl) (sg [7] (sr (some 13) (n+1) ⟨ke (s1.at 0 rfl) (s2.at 0 rfl),trivial⟩ (am (off:=5) (s2.at 0 rfl) rfl) ?_))))
 obtain⟨_,_,_,_,m1,s3,J,⟨z2,rfl,hz2⟩⟩:=(nY (a:=(bA r).2.2.1) (b:=(bA q).2.2.1) s2.topX).on s2
 refine sf (some 14) (J _ _) (oR kr) (sg [10] (sr (some 16) (n) ⟨ke (s2.at 1 rfl) (s3.at 1 rfl),ke (s1.at 1 rfl) (s2.at 1 rfl),trivial⟩ (am (off:=6) (s3.at 1 rfl) rfl) (sg [12] (sr (some 18) (n+1) ⟨ke (s2.at 0 rfl) (s3.at 0 rfl),ke (s1.at 0 rfl) (s2.at 0 rfl),trivial⟩ (am (off:=6) (s3.at 0 rfl) rfl) ?_))))
 obtain⟨_,_,_,n1,m2,s4,J,⟨z3,rfl,hz3⟩⟩:=(nY (a:=(bA r).2.2.2) (b:=(bA q).2.2.2) s3.topX).on s3
 refine sf (some 19) (J _ _) (oR kr) ?_
 obtain⟨_,_,s5,m3,f,J⟩:=bj s4 (.cells [.int .i64 (z1),.int .i64 (z2),.int .i64 (z3)] true)
 refine sf (some 20) (J _ _ (vf (.sl (n1) (0) 1 (3) none))) (oR kr) ?_
 obtain⟨_,W,_,_,m4,s6,J,⟨z,rfl,hz⟩⟩:=(yw (l:=[z1,z2,z3]) (bf (len:=3) (cap:=none) f rfl) sm s5.topX).on s5
 have hm0:=hm0.tr (m.tr (m1.tr (m2.tr (m3.tr m4))))
 refine sf (some 21) (J _ _) (oR kr) (sg [17] (sx (nx (rt ?_))))
 exact⟨.inr rfl,vf (.int .i64 z),kr,W,_,s6,hm0,z,rfl,by
  rw[hz]
  simp only[List.mem_cons,List.not_mem_nil,or_false,forall_eq_or_imp,forall_eq,hz1,hz2,hz3,Prod.ext_iff,and_assoc]⟩
theorem uY{X:Heap}{n:Nat}{r q:Rg}{c d:List F}(h1:aV X r c)(h2:aV X q d)(ht:ap X n):af 241 [.u (.agg c),.u (.agg d)] X n fun v _=>∃z:Int,v=vf (.int .i64 z)∧(z=0↔bA r=bA q):=by
 obtain⟨x2,x3,x4,x7,x8,x9,rfl⟩:=h1.ex2
 obtain⟨y2,y3,y4,y7,y8,y9,rfl⟩:=h2.ex2
 exact Fp ht
theorem uJ{X:Heap}{n:Nat}{syf:F}{fs d:List F}{ps:List (Nat×O)}{l:List Rg}{r:Rg}(hs:av 10 syf fs ps)(hc:aA (aV X) 10 l fs)(hd:aV X r d)(hno:∀x∈l,bA x≠bA r)(hlt:l.length≤1000):al 240 [vf (syf),.u (.agg (d)),.u (.fn 241 [])] X n (ps) fun v _ P'=>P'=ps∧∃i,i≤l.length∧v=.tup [.f (iN i),.f (.bool false)]:=by
 refine al.of_to1 kr fun R H0 s0=>?_
 have hm0:ab X X:=ab.rfl
 have hdl:=hd.len
 refine ag ?_
 obtain⟨_,s,J⟩:=ay s0 (.cells (d) true)
 refine ov 4 (J _ _ (vf (.ptr (n) (0)))) (ae 2 (ai 1 (ov 13 (lv l.length (hs.lenC om hc)) (ae 1 (ah 3 (aD 0 (lp (aC.dec (fun m A Hq nq=>∃(Y:Heap) (i:Nat) (j:Nat),aL A [(0,vf (syf)),(2,.u (.fn 241 [])),(4,vf (.ptr (n) (0))),(8,vi l.length),(9,vi i),(10,vi j)]∧aa Y Hq nq (cat [[(n,.cells (d) true)],ps,R])∧(ab X Y)∧(aA (aV Y) 10 l fs)∧(aV Y r d)∧(i≤j∧j≤l.length∧m=j-i)) (fun m A _ _ hI=>?_) (l.length) ⟨X,0,l.length,az (ts:=[0,2,4,8,9,10]) kr,s,(hm0),(hc),(hd),(⟨om,om,om⟩)⟩))))))))
 obtain⟨Y,i,j,hT,s,hm0,hc,hd,hij⟩:=hI
 refine To.keep _ ?_ hT.sub
 by_cases hlt2:i<j
 ·refine aP 2 (ov 17 (lT i j) (aj (aM (nx (bk 1 (ai 2 (ov 20 (aN i j) (ov 21 (eR (zw (i+j) om)) (ov 22 (au (Gm (i+j))) (ov 23 (eR (ze ((i+j)/2) om)) ?_))))))))))
  obtain⟨x,hx⟩:∃x,l[(i+j)/2]?=some x:=⟨_,List.getElem?_eq_getElem om⟩
  obtain⟨k,cs,exb,c,rfl,h2,h3,h4,hcl,hR,_⟩:=hs.at om hc hx [_] [_] s
  have hne:=hno x (List.mem_of_getElem? hx)
  refine ae 1 (sq (dw [0,1,2,3,4,5,6,7] (sg [0,1,2] (ss (some 27) (bD (id:=k) (off:=0) (sz:=10) (len:=l.length) (k:=(i+j)/2) om) (sr (some 28) (k) trivial (aG (id:=k) (off:=0+((i+j)/2)*10) (sz:=10) (c:=c) h2 h3 h4) (sr (some 29) (n) trivial (aG (off:=0) (sz:=10) (c:=d) (s.at 0 rfl) om (by rw[List.drop_zero,List.take_of_length_le om])) ?_))))))
  obtain⟨_,W,_,_,m1,s,J,⟨z,rfl,hz⟩⟩:=(uY hR hd s.topX).on s
  have hm0:=hm0.tr m1
  have hc:=hc.mono fun _ _ q=>q.mono _ _ _ _ m1
  have hd:=hd.mono _ _ _ _ m1
  refine sf (some 30) (J _ _) (oR kr) ?_
  by_cases hz0:z<0
  ·refine ss (some 31) (au (eK .i64 (x:=(z)) (y:=(0:Int)) om)) (sx (nx (iT (rg (go 1 (ov 33 (aN ((i+j)/2) 1) (aR 1 ?_)))))))
   exact .inl ⟨rfl,j-((i+j)/2+1),om,W,(i+j)/2+1,j,az (ts:=[0,2,4,8,9,10]) kr,s,(hm0),(hc),(hd),(⟨om,om,rfl⟩)⟩
  ·refine ss (some 31) (au (cr .i64 (x:=(z)) (y:=(0:Int)) om)) (sx (nx (iF (rg (aR 2 ?_)))))
   exact .inl ⟨rfl,(i+j)/2-i,om,W,i,(i+j)/2,az (ts:=[0,2,4,8,9,10]) kr,s,(hm0),(hc),(hd),(⟨om,om,rfl⟩)⟩
 ·refine aP 2 (ov 17 (lF i j) (aj ?_))
  by_cases hil:i<l.length
  ·refine iF (xt 0 (.inr ⟨sm,?_⟩))
   show To Tryz.prog 240 [1,1,1,1] _ _ _ _
   refine sq (dw [1,2,3,4,5,6,7,8,9,10,11,0,12,13,14,15] (sg [1,2] (ss (some 38) (au (sQ (i) (l.length) om)) ?_)))
   obtain⟨x,hx⟩:∃x,l[i]?=some x:=⟨_,List.getElem?_eq_getElem om⟩
   obtain⟨k,cs,exb,c,rfl,h2,h3,h4,hcl,hR,_⟩:=hs.at om hc hx [_] [_] s
   have hne:=hno x (List.mem_of_getElem? hx)
   refine sg [4,5,6,7] (ss (some 43) (bD (id:=k) (off:=0) (sz:=10) (len:=l.length) (k:=i) om) (sr (some 44) (k) trivial (aG (id:=k) (off:=0+i*10) (sz:=10) (c:=c) h2 h3 h4) (sr (some 45) (n) trivial (aG (off:=0) (sz:=10) (c:=d) (s.at 0 rfl) om (by rw[List.drop_zero,List.take_of_length_le om])) ?_)))
   obtain⟨_,W,_,_,m2,s,J,⟨z,rfl,hz⟩⟩:=(uY hR hd s.topX).on s
   have hm0:=hm0.tr m2
   refine sf (some 46) (J _ _) (oR kr) (sg [0] (ss (some 47) (au (jc .i64 (x:=(z)) (y:=(0:Int)) (by intro h;exact hne (hz.1 h)))) (sg [13,14,15] (sx (nx (rt ?_))))))
   exact⟨.inr rfl,_,kr,W,_,aa.fin1 s,hm0,rfl,i,om,rfl⟩
  ·refine iF (xt 0 (.inr ⟨sm,?_⟩))
   show To Tryz.prog 240 [1,1,1,1] _ _ _ _
   refine sq (dw [1,2,3,4,5,6,7,8,9,10,11,0,12,13,14,15] (sg [1,2] (ss (some 38) (au (yW (i) (l.length) om)) (sg [4,5,6,7,8,9,10,11,0,12,13,14,15] (sx (nx (rt ?_)))))))
   exact⟨.inr rfl,_,kr,Y,_,aa.fin1 s,hm0,rfl,i,om,rfl⟩
theorem Df{X:Heap}{n:Nat}{sid:Nat}{st:bi}{P0:List (Nat×O)}(hst:bZ X sid st P0){c:List F}(hcl:c.length=10)(hlt:st.sy.length<500):al 242 [vf (.ptr (sid) (0)),.u (.agg (c))] X n (P0) fun v _ P'=>P'=P0∧v=vi 0:=by
 obtain⟨b,sure,syf,mid,log,fs,pb,ps,rfl,hb,hlg,hs,hc⟩:=hst
 refine al.of_to (Ps:=[[(sid,.cells [b,iN sure,iN 500,syf,.map (mid)] true),(mid,.mp (c8 st.gone))],pb,ps]) kr fun R H0 s0=>?_
 have hm0:ab X X:=ab.rfl
 refine ag ?_
 obtain⟨_,s,J⟩:=ay s0 (.cells (c) true)
 refine ov 3 (J _ _ (vf (.ptr (n) (0)))) (ae 1 (sq (sq (dw [0,1,2,3,4,5,6,7,8,9] (sg [0,1,2] (sr (some 11) (sid) trivial (am (off:=3) (s.at 1 rfl) rfl) (sr (some 12) (dC (some (vf (syf)))) trivial (fw (l:=st.sy.length) (hs.lenC om hc)) (sg [5,6,7] (sr (some 16) (sid) trivial (am (off:=2) (s.at 1 rfl) rfl) (ss (some 17) (au (sQ (st.sy.length) (500) om)) (sx (nx (iT (ah 1 (rt ?_)))))))))))))))
 exact⟨.inr rfl,_,kr,X,_,aa.fin (Ps:=[_,_,_]) (aa.tl s),hm0,rfl,rfl⟩
/-- a key's cells -/
def dj(c:List F):Prop:=∃l,c=bs l∧l.length=20∧B8 l
theorem dj.len{c:List F}(h:dj c):c.length=20:=by obtain⟨l,rfl,h,_⟩:=h;rw[bg,h]
noncomputable def z7(P:Program)(o:Oper)(r:Operand→Option V):Option (Nat×Nat×Nat×Nat):=match o.op with
 |.slice t x none none none=>match r x with
  |some (.u (.f (.ptr id off)))=>match P.underlying t with
   |some (.array k e)=>match cj P e with
    |some sz=>some (id,off,sz,k)
    |none=>none
   |_=>none
  |_=>none
 |_=>none
theorem z_{P:Program}{H:Heap}{n id off sz k:Nat}{cs:List F}{o:Oper}{r:Operand→Option V}(hh:H id=some (.cells cs true))(hl:cs.length=off+k*sz)(hsz:0<sz)(hk:z7 P o r=some (id,off,sz,k):=by kernel_rfl):aE P o r H n (vf (.sl id (off+0*sz) sz (k-0) (some (k-0)))) H n:=by
 unfold z7 at hk
 split at hk
 ·rename_i t x ho
  split at hk
  ·rename_i id' off' h1
   split at hk
   ·rename_i k' e h2
    split at hk
    ·rename_i sz' h3
     cases hk
     refine .prim (vf (.sl id (off+0*sz) sz (k-0) (some (k-0))),[],0) ?_
     have h4:cR r none=some none:=rfl
     simp only[ho,stepOp,h1,h2,h3,hh,h4,d8,Option.getD_none]
     rw[if_pos ⟨Nat.le_refl _,Nat.zero_le _⟩]
     simp only
     rw[if_pos ⟨hl,hsz⟩]
    ·cases hk
   ·cases hk
  ·cases hk
 ·cases hk
theorem uH{X:Heap}{n:Nat}{a:Nat}(ht:ap X n):af 254 [vf (.int .u8 ((a:Nat):Int))] X n fun v _=>v=vf (.bool false):=by
 refine af.of_to kr ?_
 have s0:aa X X n (cat [[]]):=aa.ini ht
 have hm0:ab X X:=ab.rfl
 refine ah 1 (ai 2 (ov 5 (au (gg .u8 (x:=((a:Nat):Int)) (y:=((a:Nat):Int)) om)) (ax 1 ?_)))
 exact⟨.inr rfl,_,kr,X,_,s0,hm0,rfl⟩
theorem DV{X:Heap}{n:Nat}{a b:Nat}(ht:ap X n):af 244 [vf (.int .u8 ((a:Nat):Int)),vf (.int .u8 ((b:Nat):Int))] X n fun v _=>∃z:Int,v=vf (.int .i64 z)∧(z=0↔a=b):=by
 refine af.of_to kr ?_
 have s0:aa X X n (cat [[]]):=aa.ini ht
 have hm0:ab X X:=ab.rfl
 refine ah 1 (ai 1 ?_)
 obtain⟨_,X1,H2,n3,m4,s5,J6,rfl⟩:=(uH (a:=a) s0.topX).on s0
 refine ov 8 (J6 _ _) (ae 1 (ai 1 ?_))
 obtain⟨_,X7,H8,n9,m,s,J,rfl⟩:=(uH (a:=b) s5.topX).on s5
 have hm0:=hm0.tr (m4.tr m)
 refine ov 10 (J _ _) ?_
 rcases Nat.lt_trichotomy a b with h | h | h
 ·refine ae 1 (sq (ah 1 (ar (nx (sq (ah 1 (ar (nx (aP 2 (ov 16 (au (eK .u8 (x:=((a:Nat):Int)) (y:=((b:Nat):Int)) om)) (aj (iT (ah 1 (rt ?_))))))))))))))
  exact⟨.inr rfl,vf (.int .i64 (-1)),kr,X7,_,s,hm0,-1,rfl,om⟩
 ·refine ae 1 (sq (ah 1 (ar (nx (sq (ah 1 (ar (nx (aP 2 (ov 16 (au (cr .u8 (x:=((a:Nat):Int)) (y:=((b:Nat):Int)) om)) (aj (ar (nx (aP 2 (ov 19 (au (sS .u8 (x:=((a:Nat):Int)) (y:=((b:Nat):Int)) om)) (aj (ar (nx (ah 1 (rt ?_))))))))))))))))))))
  exact⟨.inr rfl,vf (.int .i64 0),kr,X7,_,s,hm0,0,rfl,om⟩
 ·refine ae 1 (sq (ah 1 (ar (nx (sq (ah 1 (ar (nx (aP 2 (ov 16 (au (cr .u8 (x:=((a:Nat):Int)) (y:=((b:Nat):Int)) om)) (aj (ar (nx (aP 2 (ov 19 (au (sO .u8 (x:=((a:Nat):Int)) (y:=((b:Nat):Int)) om)) (aj (iT (ah 1 (rt ?_)))))))))))))))))))
  exact⟨.inr rfl,vf (.int .i64 1),kr,X7,_,s,hm0,1,rfl,om⟩
theorem AJ{X:Heap}{n:Nat}{f g:F}{l k:List Nat}(hf:aB X f l)(hg:aB X g k)(hlk:l.length=k.length)(hlt:l.length<100000)(ht:ap X n):af 223 [vf (f),vf (g)] X n fun v _=>∃z:Int,v=vf (.int .i64 z):=by
 refine af.of_to kr ?_
 have s0:aa X X n (cat [[]]):=aa.ini ht
 have hm0:ab X X:=ab.rfl
 refine ah 1 (aP 1 (ov 10 (lv l.length hf.lenA) (ae 1 (bk 0 (lp (aC.for (l.length) (fun i A Hq nq=>∃(Y:Heap),aL A [(0,vf (f)),(1,vf (g)),(9,vf (f)),(10,vi l.length),(11,vi i)]∧aa Y Hq nq (cat [[]])∧(ab X Y)∧(aB Y f l)∧(aB Y g k)) ⟨X,az (ts:=[0,1,9,10,11]) kr,s0,(hm0),(hf),(hg)⟩ (fun i A H n1 hi hI=>?_) (fun A H n1 hI=>?_)))))))
 ·obtain⟨Y,hT,s,hm0,hf,hg⟩:=hI
  refine To.keep _ ?_ hT.sub
  have hik:i<k.length:=by omega
  obtain⟨id,off,cap,rfl,hat⟩:=hf.sl om
  obtain⟨id2,off2,cap2,rfl,hat2⟩:=hg.sl om
  refine ag (ov 12 (lT i l.length) (aQ (aM (nx (aD 1 (ai 1 (ov 14 (ix id off 1 l.length i) (ov 15 (lx id (off+i*1) (.int .u8 ((l[i]:Nat):Int)) (by rw[Nat.mul_one];exact(hat i _ (List.getElem?_eq_getElem om)).mono (s.mono _))) ?_))))))))
  refine ae 2 (aP 2 (ov 18 (ln k.length) (ov 19 (hF i k.length) (aj (ar (nx (ai 2 (ov 22 (ix id2 off2 1 k.length i) (ov 23 (lx id2 (off2+i*1) (.int .u8 ((k[i]:Nat):Int)) (by rw[Nat.mul_one];exact(hat2 i _ (List.getElem?_eq_getElem om)).mono (s.mono _))) ?_)))))))))
  refine ae 1 (ai 2 ?_)
  obtain⟨_,W,_,_,m,s,J,⟨z,rfl,hz⟩⟩:=(DV (a:=l[i]) (b:=k[i]) s.topX).on s
  have hm0:=hm0.tr m
  have hf:=hf.mono m
  have hg:=hg.mono m
  refine ov 26 (J _ _) ?_
  by_cases hz0:z=0
  ·refine ae 1 (ai 1 (ov 28 (au (gg .i64 (x:=(z)) (y:=(0:Int)) om)) (aj (ar (nx (rg (ov 30 (aN i 1) (aR 1 ?_))))))))
   exact .inl ⟨rfl,W,az (ts:=[0,1,9,10,11]) kr,s,(hm0),(hf),(hg)⟩
  ·refine ae 1 (ai 1 (ov 28 (au (lB .i64 (x:=(z)) (y:=(0:Int)) om)) (aj (iT (ah 2 (rt (.inr ⟨sm,?_⟩)))))))
   exact⟨.inr rfl,vf (.int .i64 z),kr,W,_,s,hm0,z,rfl⟩
 ·obtain⟨Y,hT,s,hm0,hf,hg⟩:=hI
  refine To.keep _ ?_ hT.sub
  refine ag (ov 12 (lF l.length l.length) (aQ (iF (xt 0 ?_))))
  refine⟨sm,?_⟩
  show To Tryz.prog 223 [1,1] _ _ _ _
  refine aP 1 (ov 32 (lv l.length hf.lenA) (go 1 (ov 34 (lv k.length hg.lenA) (ov 35 (lF l.length k.length) (aj (ar (nx (ah 1 (rt ?_)))))))))
  exact⟨.inr rfl,vf (.int .i64 0),kr,Y,_,s,hm0,0,rfl⟩
theorem uZ{w:List Nat}{i x:Nat}(hi:i<w.length):aJ (bs w) i [.int .u8 ((x:Nat):Int)]=bs (w.set i x):=by
 unfold aJ
 rw[List.set_eq_take_append_cons_drop,if_pos hi]
 simp[bs,List.map_take,List.map_drop]
theorem mX{P:Program}{f:Nat}{A:Tm}{H:Heap}{id sz:Nat}{cs:List F}(h:H id=some (.cells cs true))(hl:cs.length=sz)(hi:sM P f A=[id])(hr:(match P.funcs[f]? with | some fn=>(match fn.results.toList with | [.cell a t]=>(match A a,h_ P t,cj P t with | some (.u (.f (.ptr i 0))),some true,some z=>some (i,z) | _,_,_=>none) | _=>none) | none=>none)=some (id,sz)):j8 P f A H=some (.u (.agg cs)):=by
 unfold j8
 split at hr
 ·rename_i fn hfn
  rw[hfn]
  split at hr
  ·rename_i a t hrs
   split at hr
   ·rename_i i z h1 h2 h3
    cases hr
    simp only[hrs,c_,h1,h,h2,h3]
    rw[if_pos om,List.drop_zero,List.take_of_length_le om]
    rfl
   ·cases hr
  ·cases hr
 ·cases hr
theorem Ge{X:Heap}{n:Nat}{a b:List Nat}(ha:a.length=20)(hb:b.length=20)(ha8:B8 a)(hb8:B8 b)(ht:ap X n):af 222 [.u (.agg (bs a)),.u (.agg (bs b))] X n fun v _=>∃c,v=.u (.agg c)∧dj c:=by
 refine af.of_to kr ?_
 have s0:aa X X n (cat [[]]):=aa.ini ht
 have hm0:ab X X:=ab.rfl
 have hal:(bs a).length=20:=by rw[bg,ha]
 have hbl:(bs b).length=20:=by rw[bg,hb]
 refine ag ?_
 obtain⟨_,s,J⟩:=ay s0 (.cells (bs a) true)
 refine ov 2 (J _ _ (vf (.ptr (n) (0)))) ?_
 obtain⟨_,s,J⟩:=ay s (.cells (bs b) true)
 refine ov 3 (J _ _ (vf (.ptr (n+1) (0)))) ?_
 obtain⟨_,s,J⟩:=ay s (.cells [.int .u8 0,.int .u8 0,.int .u8 0,.int .u8 0,.int .u8 0,.int .u8 0,.int .u8 0,.int .u8 0,.int .u8 0,.int .u8 0,.int .u8 0,.int .u8 0,.int .u8 0,.int .u8 0,.int .u8 0,.int .u8 0,.int .u8 0,.int .u8 0,.int .u8 0,.int .u8 0] true)
 refine ov 4 (J _ _ (vf (.ptr (n+1+1) (0)))) (aQ (ah 1 (bk 0 (lp (aC.for (20) (fun i A Hq nq=>∃(Y:Heap) (w:List Nat),aL A [(2,vf (.ptr (n) (0))),(3,vf (.ptr (n+1) (0))),(4,vf (.ptr (n+1+1) (0))),(6,vi i)]∧aa Y Hq nq (cat [[(n+1+1,.cells [.int .u8 0,.int .u8 0,.int .u8 0,.int .u8 0,.int .u8 0,.int .u8 0,.int .u8 0,.int .u8 0,.int .u8 0,.int .u8 0,.int .u8 0,.int .u8 0,.int .u8 0,.int .u8 0,.int .u8 0,.int .u8 0,.int .u8 0,.int .u8 0,.int .u8 0,.int .u8 0] true),(n+1,.cells (bs b) true),(n,.cells (bs w) true)]])∧(ab X Y)∧(w.length=20∧B8 w)) ⟨X,a,az (ts:=[2,3,4,6]) kr,s,(hm0),(⟨ha,ha8⟩)⟩ (fun i A H n1 hi hI=>?_) (fun A H n1 hI=>?_))))))
 ·obtain⟨Y,w,hT,s,hm0,hw⟩:=hI
  refine To.keep _ ?_ hT.sub
  have hwi:i<w.length:=by omega
  have hbi:i<b.length:=by omega
  have h1:w[i]<256:=hw.2 _ (List.getElem_mem hwi)
  have h2:b[i]<256:=hb8 _ (List.getElem_mem hbi)
  have h3:w[i] ^^^ b[i]<256:=Nat.xor_lt_two_pow (n:=8) h1 h2
  refine ag (ov 7 (lT i 20) (aQ (aM (nx (aD 1 (ah 2 (dw [0,1,2,3,4,5,6,7,8] (sg [0] (ss (some 10) (jk (id:=n) (off:=0) (sz:=1) (len:=20) (k:=i) om) (sr (some 11) (n) trivial (am (id:=n) (off:=0+i*1) (x:=.int .u8 ((w[i]:Nat):Int)) (s.at 2 rfl) (by rw[Nat.zero_add,Nat.mul_one];exact gk (List.getElem?_eq_getElem hwi))) ?_))))))))))
  refine sg [3] (ss (some 13) (jk (id:=n+1) (off:=0) (sz:=1) (len:=20) (k:=i) om) (sr (some 14) (n+1) trivial (am (id:=n+1) (off:=0+i*1) (x:=.int .u8 ((b[i]:Nat):Int)) (s.at 1 rfl) (by rw[Nat.zero_add,Nat.mul_one];exact gk (List.getElem?_eq_getElem hbi))) ?_))
  refine ss (some 15) (au (iQ .u8 w[i] b[i] (by show _≤255;omega) (by show _≤255;omega) (by show _≤255;omega))) (ss (some 16) (jk (id:=n) (off:=0) (sz:=1) (len:=20) (k:=i) om) ?_)
  obtain⟨_,s,J⟩:=aI (off:=0+i*1) (new:=[.int .u8 ((w[i] ^^^ b[i]:Nat):Int)]) (cs':=bs (w.set i (w[i] ^^^ b[i]))) s 2 rfl (by simp only[bg,List.length_singleton];omega) (by rw[Nat.zero_add,Nat.mul_one];exact uZ hwi)
  refine sf none (J _ _) (oR kr) (sx (nx (rg (ov 17 (aN i 1) (aR 1 ?_)))))
  exact .inl ⟨rfl,Y,w.set i (w[i] ^^^ b[i]),az (ts:=[2,3,4,6]) kr,s,(hm0),(⟨by rw[List.length_set];exact hw.1,fun x hx=>by
   rcases List.mem_or_eq_of_mem_set hx with h | rfl
   ·exact hw.2 x h
   ·exact h3⟩)⟩
 ·obtain⟨Y,w,hT,s,hm0,hw⟩:=hI
  refine To.keep _ ?_ hT.sub
  refine ag (ov 7 (lF 20 20) (aj ?_))
  have hwl:(bs w).length=20:=by rw[bg];exact hw.1
  refine sq (iF (xt 0 ?_))
  refine⟨sm,?_⟩
  show To Tryz.prog 222 [1,1] _ _ _ _
  refine ag (ov 18 (aG (off:=0) (sz:=20) (c:=bs w) (s.at 2 rfl) om (by rw[List.drop_zero,List.take_of_length_le om])) ?_)
  obtain⟨_,s,J⟩:=dv (sz:=20) (new:=bs w) s 0 rfl om rfl
  refine oe (J _ _) (aj (rt ?_))
  exact⟨.inr rfl,_,mX (s.at 0 rfl) hwl kr kr,Y,_,s,hm0,_,rfl,w,rfl,hw.1,hw.2⟩
theorem wC{X:Heap}{n:Nat}{c d:List F}(h1:dj c)(h2:dj d)(ht:ap X n):af 222 [.u (.agg c),.u (.agg d)] X n fun v _=>∃c,v=.u (.agg c)∧dj c:=by
 obtain⟨a,rfl,ha,ha8⟩:=h1
 obtain⟨b,rfl,hb,hb8⟩:=h2
 exact Ge ha hb ha8 hb8 ht
theorem qP{X:Heap}{n:Nat}{c d e:List F}(h1:dj c)(h2:dj d)(h3:dj e)(ht:ap X n):af 180 [.u (.agg (c)),.u (.agg (d)),.u (.agg (e))] X n fun v _=>∃z:Int,v=vf (.int .i64 z):=by
 refine af.of_to kr ?_
 have s0:aa X X n (cat [[]]):=aa.ini ht
 have hm0:ab X X:=ab.rfl
 have hc:=h1.len
 have hd:=h2.len
 have he:=h3.len
 refine ag ?_
 obtain⟨_,s,J⟩:=ay s0 (.cells (c) true)
 refine ov 3 (J _ _ (vf (.ptr (n) (0)))) ?_
 obtain⟨_,s1,J⟩:=ay s (.cells (d) true)
 refine ov 4 (J _ _ (vf (.ptr (n+1) (0)))) ?_
 obtain⟨_,s2,J⟩:=ay s1 (.cells (e) true)
 refine ov 5 (J _ _ (vf (.ptr (n+1+1) (0)))) (ae 1 (sq (dw [0,1,2,3,4,5,6,7,8,9] (sr (some 9) (n) trivial (aG (off:=0) (sz:=20) (c:=c) (s2.at 2 rfl) om (by rw[List.drop_zero,List.take_of_length_le om])) (sr (some 10) (n+1) trivial (aG (off:=0) (sz:=20) (c:=d) (s2.at 1 rfl) om (by rw[List.drop_zero,List.take_of_length_le om])) ?_)))))
 obtain⟨_,_,_,_,m,s3,J,⟨x,rfl,hx⟩⟩:=(wC h1 h2 s2.topX).on s2
 refine sf (some 11) (J _ _) (oR kr) ?_
 have hx2:=hx.len
 refine sr (some 12) (n) ⟨ke (s2.at 2 rfl) (s3.at 2 rfl),trivial⟩ (aG (off:=0) (sz:=20) (c:=c) (s3.at 2 rfl) om (by rw[List.drop_zero,List.take_of_length_le om])) (sr (some 13) (n+1+1) ⟨ke (s2.at 0 rfl) (s3.at 0 rfl),trivial⟩ (aG (off:=0) (sz:=20) (c:=e) (s3.at 0 rfl) om (by rw[List.drop_zero,List.take_of_length_le om])) ?_)
 obtain⟨_,_,_,n1,m1,s4,J,⟨y,rfl,hy⟩⟩:=(wC h1 h3 s3.topX).on s3
 refine sf (some 14) (J _ _) (oR kr) ?_
 have hy2:=hy.len
 obtain⟨_,s5,J⟩:=ay s4 (.cells [.int .u8 0,.int .u8 0,.int .u8 0,.int .u8 0,.int .u8 0,.int .u8 0,.int .u8 0,.int .u8 0,.int .u8 0,.int .u8 0,.int .u8 0,.int .u8 0,.int .u8 0,.int .u8 0,.int .u8 0,.int .u8 0,.int .u8 0,.int .u8 0,.int .u8 0,.int .u8 0] true)
 refine sf (some 7) (J _ _ (vf (.ptr (n1) (0)))) ⟨ke (s4.at 0 rfl) (s5.at 1 rfl),ke (s4.at 2 rfl) (s5.at 3 rfl),ke (s4.at 1 rfl) (s5.at 2 rfl),ke (s4.at 2 rfl) (s5.at 3 rfl),trivial⟩ ?_
 obtain⟨_,s6,J⟩:=ay s5 (.cells [.int .u8 0,.int .u8 0,.int .u8 0,.int .u8 0,.int .u8 0,.int .u8 0,.int .u8 0,.int .u8 0,.int .u8 0,.int .u8 0,.int .u8 0,.int .u8 0,.int .u8 0,.int .u8 0,.int .u8 0,.int .u8 0,.int .u8 0,.int .u8 0,.int .u8 0,.int .u8 0] true)
 refine sf (some 8) (J _ _ (vf (.ptr (n1+1) (0)))) ⟨ke (s5.at 1 rfl) (s6.at 2 rfl),ke (s5.at 3 rfl) (s6.at 4 rfl),ke (s5.at 2 rfl) (s6.at 3 rfl),ke (s5.at 3 rfl) (s6.at 4 rfl),trivial⟩ ?_
 obtain⟨_,s7,J⟩:=dv (sz:=20) (new:=x) s6 1 rfl om rfl
 refine sf none (J _ _) (oR kr) ?_
 obtain⟨_,s8,J⟩:=dv (sz:=20) (new:=y) s7 0 rfl om rfl
 refine sf none (J _ _) (oR kr) (sx (nx ?_))
 obtain⟨lx,rfl,hxl,hx8⟩:=hx
 obtain⟨ly,rfl,hyl,hy8⟩:=hy
 obtain⟨_,m2,s9,f⟩:=aa.frzC s8
 have hoy:=f
 obtain⟨_,m3,s10,f1⟩:=aa.frzC s9
 have f2:=m3 _ _ f
 have hoy:=m3 _ _ hoy
 have hox:=f1
 refine sq (dw [0,1,2,3] (sr (some 15) (n1) trivial (z_ (id:=n1) (off:=0) (k:=20) (sz:=1) (s10.mono _ _ hox) om om) (sr (some 16) (n1+1) trivial (z_ (id:=n1+1) (off:=0) (k:=20) (sz:=1) (s10.mono _ _ hoy) om om) ?_)))
 obtain⟨_,W,_,_,m4,s11,J,⟨z,rfl⟩⟩:=(AJ (l:=lx) (k:=ly) ⟨bf (len:=20-0) (cap:=some (20-0)) hox (by rw[bg];omega),hx8,om⟩ ⟨bf (len:=20-0) (cap:=some (20-0)) hoy (by rw[bg];omega),hy8,om⟩ om om s10.topX).on s10
 have hm0:=hm0.tr (m.tr (m1.tr (m2.tr (m3.tr m4))))
 refine sf (some 17) (J _ _) (oR kr) (sg [3] (sx (nx (rt ?_))))
 exact⟨.inr rfl,vf (.int .i64 z),kr,W,_,s11,hm0,z,rfl⟩
def p_(l:List Nat):Nat:=l.foldl (fun y x=>stirN ((y+x%4294967296)%4294967296)) 0
def gw(y:Nat):List Nat:=(List.range 20).map fun i=>fS y i 256%256
/-- the key of some numbers -/
def bd(l:List Nat):List Nat:=gw (p_ l)
theorem E1{y i:Nat}{w:List Nat}(hi:i<20)(hl:w.length=20)(h:w.take i=(gw y).take i):(w.set i (fS y (i%4294967296) 256%256)).take (i+1)=(gw y).take (i+1):=by
 have h1:(gw y)[i]?=some (fS y i 256%256):=by simp[gw,hi]
 rw[bU h1,←h,bU (x:=fS y i 256%256) (by rw[show i%4294967296=i by omega,List.getElem?_set_self om])]
 rw[List.take_set_of_le om]
theorem EE{y:Nat}{w:List Nat}(hl:w.length=20)(h:w.take 20=(gw y).take 20):w=gw y:=by
 rwa [List.take_of_length_le om,List.take_of_length_le (by simp[gw])]at h
theorem cx(l:List Nat):(bd l).length=20:=by simp[bd,gw]
theorem r8(l:List Nat):B8 (bd l):=fun x hx=>by
 simp only[bd,gw,List.mem_map]at hx
 obtain⟨i,_,rfl⟩:=hx
 exact Nat.mod_lt _ om
theorem iI(l:List Nat):dj (bs (bd l)):=⟨_,rfl,cx l,r8 l⟩
theorem tv(a:Nat):IntKind.u32.wrap (a:Int)=((a%4294967296:Nat):Int):=by
 simp[IntKind.wrap,IntKind.bits,IntKind.signed]
theorem iA{X:Heap}{n:Nat}{f:F}{l:List Nat}(hr:bo X f l)(hlt:l.length<1000)(ht:ap X n):af 104 [vf (f)] X n fun v _=>v=.u (.agg (bs (bd l))):=by
 refine af.of_to kr ?_
 have s0:aa X X n (cat [[]]):=aa.ini ht
 have hm0:ab X X:=ab.rfl
 refine ag ?_
 obtain⟨_,s,J⟩:=ay s0 (.cells [.int .u8 0,.int .u8 0,.int .u8 0,.int .u8 0,.int .u8 0,.int .u8 0,.int .u8 0,.int .u8 0,.int .u8 0,.int .u8 0,.int .u8 0,.int .u8 0,.int .u8 0,.int .u8 0,.int .u8 0,.int .u8 0,.int .u8 0,.int .u8 0,.int .u8 0,.int .u8 0] true)
 refine ov 2 (J _ _ (vf (.ptr (n) (0)))) (aj (ah 1 (aP 1 (ov 9 (lv l.length ((cQ hr).trans (by simp[is]))) (ae 1 (bk 0 (lp (aC.for (l.length) (fun i A Hq nq=>∃(Y:Heap) (y:Nat),aL A [(2,vf (.ptr (n) (0))),(3,vf (.int .u32 ((y:Nat):Int))),(8,vf (f)),(9,vi l.length),(10,vi i)]∧aa Y Hq nq (cat [[(n,.cells [.int .u8 0,.int .u8 0,.int .u8 0,.int .u8 0,.int .u8 0,.int .u8 0,.int .u8 0,.int .u8 0,.int .u8 0,.int .u8 0,.int .u8 0,.int .u8 0,.int .u8 0,.int .u8 0,.int .u8 0,.int .u8 0,.int .u8 0,.int .u8 0,.int .u8 0,.int .u8 0] true)]])∧(ab X Y)∧(bo Y f l)∧(y<4294967296)∧(y=p_ (l.take i))) ⟨X,0,az (ts:=[2,3,8,9,10]) kr,s,(hm0),(hr),om,(rfl)⟩ (fun i A H n1 hi hI=>?_) (fun A H n1 hI=>?_)))))))))
 ·obtain⟨Y,y,hT,s,hm0,hr,hy,hyl⟩:=hI
  refine To.keep _ ?_ hT.sub
  obtain⟨id,off,cap,rfl,hat⟩:=cW hr (by simp[is];omega)
  have hll:(is l).length=l.length:=by simp[is]
  refine ag (ov 11 (lT i l.length) (aQ (aM (nx (aD 1 (ag (ov 12 (ix id off 1 ((is l).length) i) (ov 13 (lx id (off+i*1) (iN l[i]) (by rw[Nat.mul_one];exact(hat i _ (by simp[is,hi])).mono (s.mono _))) (ae 1 (rg (go 2 (ov 16 (eR (k:=.u32) (x:=((l[i]:Nat):Int)) (z:=((l[i]%4294967296:Nat):Int)) (tv l[i])) (ov 17 (au (iP .u32 ((y:Nat):Int) ((l[i]%4294967296:Nat):Int) (((y+l[i]%4294967296)%4294967296:Nat):Int) (by rw[←Int.natCast_add];exact tv _))) (ov 18 (jC (ow ((y+l[i]%4294967296)%4294967296) (Nat.mod_lt _ om) _ _)) (ae 1 (rg (ov 19 (aN i 1) (aR 1 ?_))))))))))))))))))
  exact .inl ⟨rfl,Y,stirN ((y+l[i]%4294967296)%4294967296),az (ts:=[2,3,8,9,10]) kr,s,(hm0),(hr),(wY),(by rw[bU (List.getElem?_eq_getElem hi),p_,List.foldl_append,←p_,←hyl,List.foldl_cons,List.foldl_nil])⟩
 ·obtain⟨Y,y,hT,s,hm0,hr,hy,hyl⟩:=hI
  refine To.keep _ ?_ hT.sub
  refine ag (ov 11 (lF l.length l.length) (aQ (iF (xt 0 ?_))))
  refine⟨sm,?_⟩
  show To Tryz.prog 104 [1,1,1] _ _ _ _
  refine ag ?_
  obtain⟨_,s,J⟩:=ay s (.cells [.int .u8 0,.int .u8 0,.int .u8 0,.int .u8 0,.int .u8 0,.int .u8 0,.int .u8 0,.int .u8 0,.int .u8 0,.int .u8 0,.int .u8 0,.int .u8 0,.int .u8 0,.int .u8 0,.int .u8 0,.int .u8 0,.int .u8 0,.int .u8 0,.int .u8 0,.int .u8 0] true)
  refine ov 6 (J _ _ (vf (.ptr (n1) (0)))) (aQ (ah 1 (bk 2 (lp (aC.for (20) (fun i A Hq nq=>∃(Y:Heap) (w:List Nat),aL A [(2,vf (.ptr (n) (0))),(3,vf (.int .u32 ((y:Nat):Int))),(6,vf (.ptr (n1) (0))),(20,vi i)]∧aa Y Hq nq (cat [[(n1,.cells (bs w) true),(n,.cells [.int .u8 0,.int .u8 0,.int .u8 0,.int .u8 0,.int .u8 0,.int .u8 0,.int .u8 0,.int .u8 0,.int .u8 0,.int .u8 0,.int .u8 0,.int .u8 0,.int .u8 0,.int .u8 0,.int .u8 0,.int .u8 0,.int .u8 0,.int .u8 0,.int .u8 0,.int .u8 0] true)]])∧(ab X Y)∧(w.length=20∧B8 w∧w.take i=(gw y).take i)) ⟨Y,zs 20,az (ts:=[2,3,6,20]) kr,s,(hm0),(⟨rfl,tm 20,by rw[List.take_zero,List.take_zero]⟩)⟩ (fun i A H n2 hi hI=>?_) (fun A H n2 hI=>?_))))))
  ·obtain⟨Y,w,hT,s,hm0,hw⟩:=hI
   refine To.keep _ ?_ hT.sub
   have hwi:i<w.length:=by omega
   refine ag (ov 21 (lT i 20) (aQ (aM (nx (aD 3 (ah 2 (rg (go 3 (ov 26 (eR (k:=.u32) (x:=((i:Nat):Int)) (z:=((i%4294967296:Nat):Int)) (tv i)) (ov 27 (jC (xm y (i%4294967296) 256 hy (Nat.mod_lt _ om) om om _ _)) (ov 28 (eR (jY (fS y (i%4294967296) 256))) (ov 29 (jk (id:=n1) (off:=0) (sz:=1) (len:=20) (k:=i) om) ?_))))))))))))
   obtain⟨_,s,J⟩:=aI (off:=0+i*1) (new:=[.int .u8 (((fS y (i%4294967296) 256)%256:Nat):Int)]) (cs':=bs (w.set i (fS y (i%4294967296) 256%256))) s 0 rfl (by simp only[bg,List.length_singleton];omega) (by rw[Nat.zero_add,Nat.mul_one];exact uZ hwi)
   refine oe (J _ _) (aj (rg (ov 30 (aN i 1) (aR 1 ?_))))
   exact .inl ⟨rfl,Y,w.set i (fS y (i%4294967296) 256%256),az (ts:=[2,3,6,20]) kr,s,(hm0),(⟨by rw[List.length_set];exact hw.1,fun x hx=>by
    rcases List.mem_or_eq_of_mem_set hx with h | rfl
    ·exact hw.2.1 x h
    ·omega,E1 hi hw.1 hw.2.2⟩)⟩
  ·obtain⟨Y,w,hT,s,hm0,hw⟩:=hI
   refine To.keep _ ?_ hT.sub
   refine ag (ov 21 (lF 20 20) (aj ?_))
   have hwl:(bs w).length=20:=by rw[bg];exact hw.1
   refine sq (iF (xt 2 ?_))
   refine⟨sm,?_⟩
   show To Tryz.prog 104 [1,1,1,1,1] _ _ _ _
   refine ag (ov 31 (aG (off:=0) (sz:=20) (c:=bs w) (s.at 0 rfl) om (by rw[List.drop_zero,List.take_of_length_le om])) ?_)
   obtain⟨_,s,J⟩:=dv (sz:=20) (new:=bs w) s 1 rfl om rfl
   refine oe (J _ _) (aj (rt ?_))
   exact⟨.inr rfl,_,mX (s.at 1 rfl) hwl kr kr,Y,_,s,hm0,by rw[hyl,List.take_length]at hw;rw[EE hw.1 hw.2.2,bd]⟩
end Go.Proofs.YtkimkgbppegkhaaGreat.Cm
