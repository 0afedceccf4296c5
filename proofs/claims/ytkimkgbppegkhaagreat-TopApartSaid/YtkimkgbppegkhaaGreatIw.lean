/- The clean machine's walks of looks (4): the next one, one heard, a look made. · The clean machine's walks of places: whose a symbol is, and what each of some peers has. · slices.Insert of one record, ahead of the end, walked over the world itself. -/
import Derived.Test.YtkimkgbppegkhaaGreatLj
import Derived.Test.YtkimkgbppegkhaaGreatAa
import Derived.Test.YtkimkgbppegkhaaGreatProg
import Derived.Shelf.Spec.SlicesInsertGrow
set_option linter.unusedVariables false
set_option linter.unusedSimpArgs false
namespace Go.Proofs.YtkimkgbppegkhaaGreat.Cm
open Go Go.RowKit Go.Proofs.YtkimkgbppegkhaaGreat.Gf
set_option maxRecDepth 1000000
theorem wd{X:Heap}{n:Nat}{f:F}{l:List Nat}{g:Nat}{caps:List F}(hr:bo X f l)(h0:0<l.length)(hlt:l.length<1000)(hgo:bX Tryz.prog g=true)(hg:∀(a b:Nat) Y m,ab X Y→ap Y m→af g ([vi a,vi b]++caps.map fun x=>.u (.f x)) Y m fun v _=>∃z:Int,v=vf (.int .i64 z))(ht:ap X n):af 178 [vf (f),.u (.fn g caps)] X n fun v _=>∃k∈l,v=vi k:=by
 refine af.of_to kr ?_
 have s0:aa X X n (cat [[]]):=aa.ini ht
 have hm0:ab X X:=ab.rfl
 refine ah 1 (aP 1 (ov 8 (lv l.length ((cQ hr).trans (by simp[is]))) (ov 9 (lF l.length 1) (aj ?_))))
 obtain⟨id,off,cap,rfl,hat⟩:=cW hr (by simp[is];omega)
 have hll:(is l).length=l.length:=by simp[is]
 refine ar (nx (ai 1 (ov 12 (ix id off 1 ((is l).length) 0) (ov 13 (lx id (off+0*1) (iN l[0]) (by rw[Nat.mul_one];exact(hat (0) _ (jd (List.getElem?_eq_getElem om))).mono (s0.mono _))) ?_))))
 skip
 refine ae 1 (sq (ah 1 (bk 0 (lp (aC.for (l.length-1) (fun q A Hq nq=>∃(Y:Heap) (m0:Nat),aL A [(0,vf (.sl (id) (off) 1 ((is l).length) cap)),(1,.u (.fn g caps)),(5,vi m0),(6,vi (q+1))]∧aa Y Hq nq (cat [[]])∧(ab X Y)∧(∀(i:Nat) x,(is l)[i]?=some x→cn Y id (off+i) x)∧(m0∈l)) ⟨X,l[0],az (ts:=[0,1,5,6]) kr,s0,(hm0),(hat),(List.getElem_mem h0)⟩ (fun q A H n1 hi hI=>?_) (fun A H n1 hI=>?_))))))
 ·obtain⟨Y,m0,qA,s,hm0,hat,hml⟩:=hI
  refine To.keep _ ?_ qA.sub
  refine aP 2 (ov 16 (ln ((is l).length)) (ov 17 (lT (q+1) ((is l).length)) (aj (aM (nx (aD 1 (ai 3 (ov 23 (ix id off 1 ((is l).length) (q+1)) (ov 24 (lx id (off+(q+1)*1) (iN (l[q+1])) (by rw[Nat.mul_one];exact(hat (q+1) _ (jd (List.getElem?_eq_getElem om))).mono (s.mono _))) ?_)))))))))
  refine go 1 ?_
  obtain⟨_,W,_,_,m1,s,J,⟨z,rfl⟩⟩:=(hg l[q+1] m0 _ _ hm0 s.topX:af g ([vi (l[q+1]),vi m0]++caps.map fun x=>.u (.f x)) Y (n1) _).on s
  have hm0:=hm0.tr m1
  have hat:=fun i x h=>(hat i x h).mono (m1 _)
  refine ov 26 (J _ _ kr hgo) ?_
  rcases Int.lt_or_le z 0 with hz | hz
  ·refine ov 27 (au (eK .i64 (x:=(z)) (y:=(0:Int)) om)) (aj (iT (rg (go 2 (ov 30 (ix id off 1 ((is l).length) (q+1)) (ov 31 (lx id (off+(q+1)*1) (iN (l[q+1])) (by rw[Nat.mul_one];exact(hat (q+1) _ (jd (List.getElem?_eq_getElem om))).mono (s.mono _))) ?_))))))
   refine ae 1 (rg (go 1 (ov 19 (aN (q+1) 1) (aR 1 ?_))))
   exact .inl ⟨rfl,W,l[q+1],az (ts:=[0,1,5,6]) kr,s,(hm0),(hat),(List.getElem_mem om)⟩
  ·refine ov 27 (au (cr .i64 (x:=(z)) (y:=(0:Int)) om)) (aj (ar (nx (rg (go 1 (ov 19 (aN (q+1) 1) (aR 1 ?_)))))))
   exact .inl ⟨rfl,W,m0,az (ts:=[0,1,5,6]) kr,s,(hm0),(hat),(hml)⟩
 ·obtain⟨Y,m0,qA,s,hm0,hat,hml⟩:=hI
  refine To.keep _ ?_ qA.sub
  refine aP 2 (ov 16 (ln ((is l).length)) (ov 17 (lF ((l.length-1)+1) ((is l).length)) (aj (iF (xt 0 ?_)))))
  refine⟨sm,?_⟩
  show To Tryz.prog 178 [1,1,1,1] _ _ _ _
  refine ah 2 (rt ?_)
  exact⟨.inr rfl,_,kr,Y,_,s,hm0,m0,hml,rfl⟩
theorem Cd{X:Heap}{n:Nat}{lid b k q:Nat}{kn ak opn:List Nat}(hb:X b=some (.cells [.ptr lid 0] true))(hl:i4 X lid kn ak opn)(ht:ap X n):af 211 [vi k,vi q,vf (.ptr (b) (0))] X n fun v _=>∃z:Int,v=vf (.int .i64 z):=by
 refine af.of_to kr ?_
 have s0:aa X X n (cat [[]]):=aa.ini ht
 have hm0:ab X X:=ab.rfl
 obtain⟨c,self,fk,fa,fo,hc,h0,hk,ha,ho⟩:=hl
 have h20k:(bs (bd [k])).length=20:=by rw[bg,cx]
 have h20q:(bs (bd [q])).length=20:=by rw[bg,cx]
 refine ah 1 (sq (dw [4,5,6,7,8,9,0,1,2,3,10,11] (sg [4] ?_)))
 obtain⟨_,_,s,m,f,J⟩:=bj s0 (.cells [iN k] true)
 have f1:=m _ _ hb
 have f2:=m _ _ h0
 refine sf (some 11) (J _ _ (vf (.sl (n) (0) 1 (1) none))) trivial ?_
 obtain⟨_,_,_,n1,m1,s1,J,rfl⟩:=(iA (l:=[k]) (bf (cap:=none) f rfl) sm s.topX).on s
 have f3:=m1 _ _ f1
 have f4:=m1 _ _ f2
 refine sf (some 12) (J _ _) trivial (sg [7] ?_)
 obtain⟨_,_,s2,m2,f5,J⟩:=bj s1 (.cells [iN q] true)
 have f6:=m2 _ _ f3
 have f7:=m2 _ _ f4
 refine sf (some 14) (J _ _ (vf (.sl (n1) (0) 1 (1) none))) trivial ?_
 obtain⟨_,_,_,_,m3,s3,J,rfl⟩:=(iA (l:=[q]) (bf (cap:=none) f5 rfl) sm s2.topX).on s2
 have f8:=m3 _ _ f6
 have f9:=m3 _ _ f7
 refine sf (some 15) (J _ _) trivial (sr (some 6) (b) ⟨ke (s2.mono _ _ f6) (s3.mono _ _ f8),ke (s1.mono _ _ f3) (s2.mono _ _ f6),ke (s.mono _ _ f1) (s1.mono _ _ f3),ke (s0.mono _ _ hb) (s.mono _ _ f1),trivial⟩ (am (off:=0) (s3.mono _ _ f8) rfl) (sg [1,2] (sr (some 9) (lid) ⟨ke (s2.mono _ _ f7) (s3.mono _ _ f9),ke (s1.mono _ _ f4) (s2.mono _ _ f7),ke (s.mono _ _ f2) (s1.mono _ _ f4),ke (s0.mono _ _ h0) (s.mono _ _ f2),trivial⟩ (aG (id:=lid) (off:=0) (sz:=20) (c:=c) (s3.mono _ _ f9) (by simp[hc.len]) (by rw[List.drop_zero,List.take_left' hc.len])) ?_)))
 obtain⟨_,W,_,_,m4,s4,J,⟨z,rfl⟩⟩:=(qP (d:=bs (bd [k])) (e:=bs (bd [q])) hc (iI _) (iI _) s3.topX).on s3
 have hm0:=hm0.tr (m.tr (m1.tr (m2.tr (m3.tr m4))))
 refine sf (some 16) (J _ _) (oR kr) (sg [11] (sx (nx (rt ?_))))
 exact⟨.inr rfl,vf (.int .i64 z),kr,W,_,s4,hm0,z,rfl⟩
theorem vN{X:Heap}{n:Nat}{lid self:Nat}{kn ak opn:List Nat}{P0:List (Nat×O)}(hlv:eY lid self kn ak opn P0)(hlk:kn.length<1000)(hla:ak.length<1000)(hlo:opn.length<1000):al 159 [vf (.ptr (lid) (0))] X n (P0) fun v _ P'=>(leftL kn ak=[]∧v=.tup [.f (.int .i64 0),.f (.bool false)]∧P'=P0)∨∃k∈leftL kn ak,v=.tup [.f (iN k),.f (.bool true)]∧eY lid self kn (ak++[k]) (opn++[k]) P':=by
 refine al.of_to1 kr fun R H0 s0=>?_
 have hm0:ab X X:=ab.rfl
 refine ag ?_
 obtain⟨_,s,J⟩:=ay s0 (.cells [.ptr (lid) (0)] true)
 refine ov 1 (J _ _ (vf (.ptr (n) (0)))) (ae 2 (sq (ag ?_)))
 obtain⟨_,m1,s1,f1⟩:=aa.frzC s
 have hbx:=f1
 refine ov 6 (ld 0 (s1.mono _ _ f1) rfl) (ae 1 (ar (nx (ag (ov 8 (ld 0 (s1.mono _ _ f1) rfl) ?_)))))
 obtain⟨_,W,_,_,P2,m2,s2,J,⟨Pl,rfl,g,rfl,hg⟩⟩:=(bF.borrow (Q:=P0) (Post:=fun v P2=>∃g,v=vf g∧av 1 g (is (leftL kn ak)) P2) fun Y h1 h2 h3=>vX (hlv.frz h2) om om h3).on [_] [_] s1
 have f2:=m2 _ _ f1
 have hm0:=hm0.tr (m1.tr m2)
 have hbx:=m2 _ _ hbx
 refine ov 9 (J _ _) ?_
 have s3:=aa.unp [_] [_] [_,_] s2
 have hil:=dI (leftL kn ak)
 have hll:(leftL kn ak).length≤kn.length:=List.length_filter_le _ _
 refine ae 1 (aP 1 (ov 11 (lv ((leftL kn ak).length) (hg.lenA (l:=(leftL kn ak).length) om om)) ?_))
 rcases Nat.eq_zero_or_pos (leftL kn ak).length with h1 | h1
 ·refine ov 12 (eT ((leftL kn ak).length) 0) (aj (iT (ah 2 (rt ?_))))
  exact⟨.inr rfl,_,kr,W,_,aa.fin (Ps:=[_]) (aa.rid [_] [_] (aa.out0 s3)),hm0,.inl ⟨List.eq_nil_of_length_eq_zero h1,rfl,fP _⟩⟩
 ·refine ov 12 (eF ((leftL kn ak).length) 0) (aj ?_)
  obtain⟨_,m3,s4,hrow⟩:=av.frz (hg) [_,_] [_] s3
  have f3:=m3 _ _ f2
  have hbx:=m3 _ _ hbx
  refine ar (nx (ai 2 ?_))
  obtain⟨_,_,_,n1,P0,m4,s5,J,⟨rfl,k,hkl,rfl⟩⟩:=(af.borrow (Q:=P0) (Post:=fun v=>∃k∈leftL kn ak,v=vi k) fun Y h1 h2 h3=>wd (f:=g) (g:=211) (caps:=[.ptr n 0]) (aO h1 hrow) om om kr (fun a b Z m hm ht=>Cd (hm _ _ (h1 _ _ hbx)) ((hlv.frz h2).mono hm) ht) h3).on [_] [_] s4
  have f4:=m4 _ _ f3
  refine ov 15 (J _ _) ?_
  obtain⟨c,fk,fa,fo,Pk,Pa,Po,hc,rfl,hk,ha,ho⟩:=hlv
  have s6:=aa.unp [_] [_] [_,_,_,_] s5
  have s7:=aa.inn [] [_,_,_,_] s6
  have hal:=dI ak
  have hol:=dI opn
  refine ae 1 (sq (dw [2,3,4,5,6,7,8,9,10,11,12,13,14,15,0,16,17,18,1,19,20,21] (sr (some 18) (n) trivial (am (off:=0) (s7.mono _ _ f4) rfl) (sg [3,4] (sr (some 21) (lid) trivial (am (id:=lid) (off:=22) (x:=fa) (s7.at 0 rfl) (gi hc.len 2)) (sg [6] ?_))))))
  obtain⟨_,_,s8,m5,f5,J⟩:=bj s7 (.cells [iN k] true)
  have f6:=m5 _ _ f4
  refine sf (some 23) (J _ _ (vf (.sl (n1) (0) 1 (1) none))) ⟨ke (s7.at 0 rfl) (s8.at 0 rfl),ke (s7.mono _ _ f4) (s8.mono _ _ f6),trivial⟩ ?_
  obtain⟨a1,_,n2,P,ho324,s9,J⟩:=b6 (sz:=1) (bytes:=8) (x:=.sl (n1) (0) 1 (1) none) (new:=[iN k]) [_,_] [_,_] s8 (ha) (bf (s8.mono _ _ f5) rfl) (rfl) om om
  refine sf (some 24) (J _ _) (oR kr) (sr (some 25) (n) ⟨ke (s8.mono _ _ f6) (s9.mono _ _ f6),ke (s7.mono _ _ f4) (s8.mono _ _ f6),trivial⟩ (am (off:=0) (s9.mono _ _ f6) rfl) (sg [10,11] (sr (some 28) (lid) ⟨ke (s8.at 0 rfl) (s9.at 0 rfl),ke (s7.at 0 rfl) (s8.at 0 rfl),trivial⟩ (am (id:=lid) (off:=23) (x:=fo) (s9.at 0 rfl) (gi hc.len 3)) (sg [13] ?_))))
  obtain⟨W,_,s10,m6,f7,J⟩:=bj s9 (.cells [iN k] true)
  have f8:=m6 _ _ f6
  have f9:=m6 _ _ f5
  have hm0:=hm0.tr (m3.tr (m4.tr (m5.tr m6)))
  have hbx:=(m4.tr (m5.tr m6)) _ _ hbx
  refine sf (some 30) (J _ _ (vf (.sl (n2) (0) 1 (1) none))) ⟨ke (s9.at 0 rfl) (s10.at 0 rfl),ke (s9.mono _ _ f6) (s10.mono _ _ f8),ke (s9.at 0 rfl) (s10.at 0 rfl),ke (s9.mono _ _ f6) (s10.mono _ _ f8),trivial⟩ ?_
  obtain⟨a2,_,_,P1,ho339,s11,J⟩:=b6 (sz:=1) (bytes:=8) (x:=.sl (n2) (0) 1 (1) none) (new:=[iN k]) [_,_,_] [_] s10 (ho) (bf (s10.mono _ _ f7) rfl) (rfl) om om
  refine sf (some 31) (J _ _) (oR kr) (sr (some 16) (n) ⟨ke (s10.mono _ _ f8) (s11.mono _ _ f8),ke (s9.mono _ _ f6) (s10.mono _ _ f8),ke (s8.mono _ _ f6) (s9.mono _ _ f6),ke (s7.mono _ _ f4) (s8.mono _ _ f6),trivial⟩ (am (off:=0) (s11.mono _ _ f8) rfl) (sg [16,17] ?_))
  obtain⟨_,s12,J⟩:=aI (off:=22) (new:=[a1]) (cs':=c++[iN self,fk,a1,fo]) s11 0 rfl (by simp[hc.len]) (pc hc.len 2 sm)
  refine sf none (J _ _) (oR kr) (sr (some 17) (n) ⟨ke (s11.mono _ _ f8) (s12.mono _ _ f8),ke (s10.mono _ _ f8) (s11.mono _ _ f8),ke (s9.mono _ _ f6) (s10.mono _ _ f8),ke (s8.mono _ _ f6) (s9.mono _ _ f6),ke (s7.mono _ _ f4) (s8.mono _ _ f6),trivial⟩ (am (off:=0) (s12.mono _ _ f8) rfl) (sg [19,20] ?_))
  obtain⟨_,s13,J⟩:=aI (off:=23) (new:=[a2]) (cs':=c++[iN self,fk,a1,a2]) s12 0 rfl (by simp[hc.len]) (pc hc.len 3 sm)
  refine sf none (J _ _) (oR kr) (sx (nx (ah 3 (rt ?_))))
  exact⟨.inr rfl,_,kr,W,_,aa.fin (Ps:=[_,_,_,_]) s13,hm0,.inr ⟨k,hkl,rfl,c,fk,a1,a2,Pk,P,P1,hc,rfl,hk,by rw[li];exact ho324,by rw[li];exact ho339⟩⟩
/-- what a look is when one has answered -/
def iM(opn:List Nat)(k:Nat):List Nat:=opn.filter fun a=> !decide (a=k)
theorem CB{X:Heap}{n:Nat}{lid self:Nat}{kn ak opn:List Nat}{P0:List (Nat×O)}(hlv:eY lid self kn ak opn P0){k:Nat}{f:F}{more:List Nat}(hr:bo X f more)(hlk:kn.length<1000)(hlm:more.length<1000)(hlo:opn.length<1000)(hin:k∈opn):al 194 [vf (.ptr (lid) (0)),vi k,vf (f)] X n (P0) fun v _ P'=>v=.tup []∧eY lid self (bE self kn more) ak (iM opn k) P':=by
 obtain⟨c,fk,fa,fo,Pk,Pa,Po,hc,rfl,hk,ha,ho⟩:=hlv
 refine al.of_to (Ps:=[[(lid,.cells (c++[iN self,fk,fa,fo]) true)],Pk,Pa,Po]) kr fun R H0 s0=>?_
 have hm0:ab X X:=ab.rfl
 refine aP 6 (ov 12 (am (id:=lid) (off:=23) (x:=fo) (s0.at 0 rfl) (gi hc.len 3)) (go 1 ?_))
 obtain⟨_,_,_,_,Po,m,s,J,⟨rfl,rfl⟩⟩:=((af.borrow (Q:=Po) (Post:=fun v=>v=vf (.bool true)) fun Y h1 h2 h3=>(nW (k:=k) (ho.rowY h2) om h3).imp (Post':=fun v _=>v=vf (.bool true)) fun v _ h=>by rw[h,decide_eq_true hin])).on [_,_,_] [_] s0
 refine ov 14 (J _ _) ?_
 have s:=aa.outAt [] [] s
 have s:=aa.pck [_] [_] [_,_,_,_] s
 refine ae 2 (ar (nx (ai 2 ?_)))
 obtain⟨_,_,_,_,P2,m1,s,J,⟨rfl,hlv⟩⟩:=(Dt (k:=k) ⟨c,fk,fa,fo,Pk,Pa,Po,hc,rfl,hk,ha,ho⟩ om).on [_] [_] s
 have hr:=aO (m.tr m1) hr
 refine ov 19 (J _ _) (aj (rg (go 2 ?_)))
 obtain⟨_,W,_,_,P3,m2,s,J,⟨rfl,hlv2⟩⟩:=(v9 hlv hr hlk hlm).on [_] [_] s
 have hm0:=hm0.tr (m.tr (m1.tr m2))
 refine ov 22 (J _ _) (dn ?_)
 exact⟨.inl rfl,_,kr,W,_,aa.fin1 s,hm0,rfl,hlv2⟩
theorem Dr{X:Heap}{n:Nat}{c:List F}{self:Nat}{f:F}{l:List Nat}(hc:dj c)(hr:bo X f l)(hll:l.length<1000)(ht:ap X n):bF 111 [.u (.agg (c)),vi self,vf (f)] X n fun v _ M'=>∃lid,v=vf (.ptr lid 0)∧eY lid self (bE self [] l) [] [] M':=by
 refine bF.of_to kr ?_
 have s0:aa X X n (cat [[]]):=aa.ini ht
 have hm0:ab X X:=ab.rfl
 have hcl:=hc.len
 refine ag ?_
 obtain⟨_,s,J⟩:=ay s0 (.cells (c) true)
 refine ov 3 (J _ _ (vf (.ptr (n) (0)))) (ae 1 (ag (ov 8 (aG (off:=0) (sz:=20) (c:=c) (s.at 0 rfl) om (by rw[List.drop_zero,List.take_of_length_le om])) (go 1 ?_))))
 have hL371:(((c)++[iN self,.sl0,.sl0,.sl0])).length=24:=by simp only[List.length_cons,List.length_append,List.length_nil,hcl]
 refine ov 10 (sB (cs:=((c)++[iN self,.sl0,.sl0,.sl0])) (pl:=[(0,20),(20,1),(21,1),(22,1),(23,1)]) (z:=[.int .u8 0,.int .u8 0,.int .u8 0,.int .u8 0,.int .u8 0,.int .u8 0,.int .u8 0,.int .u8 0,.int .u8 0,.int .u8 0,.int .u8 0,.int .u8 0,.int .u8 0,.int .u8 0,.int .u8 0,.int .u8 0,.int .u8 0,.int .u8 0,.int .u8 0,.int .u8 0,.int .i64 0,.sl0,.sl0,.sl0]) (ps:=[(0,c),(1,[iN self])]) (by simp[dJ,aJ,hcl,List.drop_append,List.take_append]) kr) ?_
 obtain⟨_,s,J⟩:=ay s (.cells (((c)++[iN self,.sl0,.sl0,.sl0])) true)
 refine ov 11 (J _ _ (vf (.ptr (n+1) (0)))) (ae 1 (ag ?_))
 have s:=aa.outAt [] [_] s
 skip
 refine go 2 ?_
 obtain⟨_,W,_,_,P2,m,s,J,⟨rfl,hlv⟩⟩:=(v9 (lid:=n+1) (self:=self) (kn:=[]) (ak:=[]) (opn:=[]) ⟨c,.sl0,.sl0,.sl0,[],[],[],hc,by simp[cat],av.nil 1,av.nil 1,av.nil 1⟩ hr sm hll).on [_] [] s
 have hm0:=hm0.tr m
 refine ov 14 (J _ _) (aj (ah 2 (rt ?_)))
 exact⟨.inr rfl,_,kr,W,_,aa.out0 s,hm0,_,rfl,(fP P2).symm▸hlv⟩
theorem vI{X:Heap}{n:Nat}{a b:Nat}(ht:ap X n):af 112 [.u (.agg [iN a,iN b])] X n fun v _=>v=.u (.agg (bs (bd [a,b]))):=by
 refine af.of_to kr ?_
 have s0:aa X X n (cat [[]]):=aa.ini ht
 have hm0:ab X X:=ab.rfl
 have h:(bs (bd [a,b])).length=20:=by rw[bg,cx]
 refine ag ?_
 obtain⟨_,s,J⟩:=ay s0 (.cells [iN a,iN b] true)
 refine ov 1 (J _ _ (vf (.ptr (n) (0)))) ?_
 obtain⟨_,s,J⟩:=ay s (.cells [.int .u8 0,.int .u8 0,.int .u8 0,.int .u8 0,.int .u8 0,.int .u8 0,.int .u8 0,.int .u8 0,.int .u8 0,.int .u8 0,.int .u8 0,.int .u8 0,.int .u8 0,.int .u8 0,.int .u8 0,.int .u8 0,.int .u8 0,.int .u8 0,.int .u8 0,.int .u8 0] true)
 refine ov 2 (J _ _ (vf (.ptr (n+1) (0)))) (aj (ai 1 (ov 4 (ld 0 (s.at 1 rfl) rfl) (go 1 (ov 6 (ld 1 (s.at 1 rfl) rfl) ?_)))))
 obtain⟨_,_,s,m,f,J⟩:=bj s (.cells [iN a,iN b] true)
 refine ov 7 (J _ _ (vf (.sl (n+1+1) (0) 1 (2) none))) ?_
 obtain⟨_,W,_,_,m1,s,J,rfl⟩:=(iA (l:=[a,b]) (bf (len:=2) (cap:=none) f rfl) sm s.topX).on s
 have f1:=m1 _ _ f
 have hm0:=hm0.tr (m.tr m1)
 refine ov 8 (J _ _) ?_
 obtain⟨_,s,J⟩:=dv (sz:=20) (new:=bs (bd [a,b])) s 0 rfl om rfl
 refine oe (J _ _) (aj (rt ?_))
 exact⟨.inr rfl,_,mX (s.at 0 rfl) h kr kr,W,_,s,hm0,rfl⟩
theorem C0{X:Heap}{n:Nat}{a b c d:Nat}(ht:ap X n):af 128 [.u (.agg [iN a,iN b]),vi c,vi d] X n fun v _=>v=.u (.agg (bs (bd [a,b,c,d]))):=by
 refine af.of_to kr ?_
 have s0:aa X X n (cat [[]]):=aa.ini ht
 have hm0:ab X X:=ab.rfl
 have h:(bs (bd [a,b,c,d])).length=20:=by rw[bg,cx]
 refine ag ?_
 obtain⟨_,s,J⟩:=ay s0 (.cells [iN a,iN b] true)
 refine ov 3 (J _ _ (vf (.ptr (n) (0)))) ?_
 obtain⟨_,s,J⟩:=ay s (.cells [.int .u8 0,.int .u8 0,.int .u8 0,.int .u8 0,.int .u8 0,.int .u8 0,.int .u8 0,.int .u8 0,.int .u8 0,.int .u8 0,.int .u8 0,.int .u8 0,.int .u8 0,.int .u8 0,.int .u8 0,.int .u8 0,.int .u8 0,.int .u8 0,.int .u8 0,.int .u8 0] true)
 refine ov 6 (J _ _ (vf (.ptr (n+1) (0)))) (aj (ai 1 (ov 8 (ld 0 (s.at 1 rfl) rfl) (go 1 (ov 10 (ld 1 (s.at 1 rfl) rfl) (go 2 ?_))))))
 obtain⟨_,_,s,m,f,J⟩:=bj s (.cells [iN a,iN b,iN c,iN d] true)
 refine ov 13 (J _ _ (vf (.sl (n+1+1) (0) 1 (4) none))) ?_
 obtain⟨_,W,_,_,m1,s,J,rfl⟩:=(iA (l:=[a,b,c,d]) (bf (len:=4) (cap:=none) f rfl) sm s.topX).on s
 have f1:=m1 _ _ f
 have hm0:=hm0.tr (m.tr m1)
 refine ov 14 (J _ _) ?_
 obtain⟨_,s,J⟩:=dv (sz:=20) (new:=bs (bd [a,b,c,d])) s 0 rfl om rfl
 refine oe (J _ _) (aj (rt ?_))
 exact⟨.inr rfl,_,mX (s.at 0 rfl) h kr kr,W,_,s,hm0,rfl⟩
theorem EO{X:Heap}{n:Nat}{ip ik u B N M b e:Nat}{g:F}(ht:ap X n):af 149 [.u (.agg [iN ip,iN ik,iN B,iN N,iN M,iN b,iN e,.bool false,iN u,g])] X n fun v _=>v=.u (.agg (bs (bd [ip,ik,b,e]))):=by
 refine af.of_to kr ?_
 have s0:aa X X n (cat [[]]):=aa.ini ht
 have hm0:ab X X:=ab.rfl
 have h:(bs (bd [ip,ik,b,e])).length=20:=by rw[bg,cx]
 refine ag ?_
 obtain⟨_,s,J⟩:=ay s0 (.cells [iN ip,iN ik,iN B,iN N,iN M,iN b,iN e,.bool false,iN u,g] true)
 refine ov 1 (J _ _ (vf (.ptr (n) (0)))) ?_
 obtain⟨_,s,J⟩:=ay s (.cells [.int .u8 0,.int .u8 0,.int .u8 0,.int .u8 0,.int .u8 0,.int .u8 0,.int .u8 0,.int .u8 0,.int .u8 0,.int .u8 0,.int .u8 0,.int .u8 0,.int .u8 0,.int .u8 0,.int .u8 0,.int .u8 0,.int .u8 0,.int .u8 0,.int .u8 0,.int .u8 0] true)
 refine ov 2 (J _ _ (vf (.ptr (n+1) (0)))) (aj (aP 1 (ov 4 (ld 7 (s.at 1 rfl) rfl) (aj (ar (nx (ai 1 (ov 9 (la 0 2 [iN ip,iN ik] (s.at 1 rfl)) (go 1 (ov 11 (ld 5 (s.at 1 rfl) rfl) (go 1 (ov 13 (ld 6 (s.at 1 rfl) rfl) ?_))))))))))))
 obtain⟨_,W,_,_,m,s,J,rfl⟩:=(C0 (a:=ip) (b:=ik) (c:=b) (d:=e) s.topX).on s
 have hm0:=hm0.tr m
 refine ov 14 (J _ _) ?_
 obtain⟨_,s,J⟩:=dv (sz:=20) (new:=bs (bd [ip,ik,b,e])) s 0 rfl om rfl
 refine oe (J _ _) (aj (rt ?_))
 exact⟨.inr rfl,_,mX (s.at 0 rfl) h kr kr,W,_,s,hm0,rfl⟩
theorem Cc{X:Heap}{n:Nat}{bid k q:Nat}{c:List F}(hb:X bid=some (.cells c true))(hc:dj c)(ht:ap X n):af 179 [vi k,vi q,vf (.ptr (bid) (0))] X n fun v _=>∃z:Int,v=vf (.int .i64 z):=by
 refine af.of_to kr ?_
 have s0:aa X X n (cat [[]]):=aa.ini ht
 have hm0:ab X X:=ab.rfl
 have hcl:=hc.len
 have h20k:(bs (bd [k])).length=20:=by rw[bg,cx]
 have h20q:(bs (bd [q])).length=20:=by rw[bg,cx]
 refine ah 1 (sq (dw [1,2,3,4,5,6,0,7,8] (sg [1] ?_)))
 obtain⟨_,_,s,m,f,J⟩:=bj s0 (.cells [iN k] true)
 have f1:=m _ _ hb
 refine sf (some 8) (J _ _ (vf (.sl (n) (0) 1 (1) none))) trivial ?_
 obtain⟨_,_,_,n1,m1,s1,J,rfl⟩:=(iA (l:=[k]) (bf (cap:=none) f rfl) sm s.topX).on s
 have f2:=m1 _ _ f1
 have f3:=m1 _ _ f
 refine sf (some 9) (J _ _) trivial (sg [4] ?_)
 obtain⟨_,_,s2,m2,f4,J⟩:=bj s1 (.cells [iN q] true)
 have f5:=m2 _ _ f2
 have f6:=m2 _ _ f3
 refine sf (some 11) (J _ _ (vf (.sl (n1) (0) 1 (1) none))) trivial ?_
 obtain⟨_,_,_,_,m3,s3,J,rfl⟩:=(iA (l:=[q]) (bf (cap:=none) f4 rfl) sm s2.topX).on s2
 have f7:=m3 _ _ f5
 have f8:=m3 _ _ f6
 have f9:=m3 _ _ f4
 refine sf (some 12) (J _ _) trivial (sr (some 6) (bid) ⟨ke (s2.mono _ _ f5) (s3.mono _ _ f7),ke (s1.mono _ _ f2) (s2.mono _ _ f5),ke (s.mono _ _ f1) (s1.mono _ _ f2),ke (s0.mono _ _ hb) (s.mono _ _ f1),trivial⟩ (aG (off:=0) (sz:=20) (c:=c) (s3.mono _ _ f7) om (by rw[List.drop_zero,List.take_of_length_le om])) ?_)
 obtain⟨_,W,_,_,m4,s4,J,⟨z,rfl⟩⟩:=(qP (d:=bs (bd [k])) (e:=bs (bd [q])) hc (iI _) (iI _) s3.topX).on s3
 have hm0:=hm0.tr (m.tr (m1.tr (m2.tr (m3.tr m4))))
 refine sf (some 13) (J _ _) (oR kr) (sg [8] (sx (nx (rt ?_))))
 exact⟨.inr rfl,vf (.int .i64 z),kr,W,_,s4,hm0,z,rfl⟩
theorem DM{X:Heap}{n:Nat}{c:List F}{f:F}{l:List Nat}(hc:dj c)(hr:bo X f l)(h0:0<l.length)(hlt:l.length<1000)(ht:ap X n):af 127 [.u (.agg (c)),vf (f)] X n fun v _=>∃k∈l,v=.tup [.f (iN k),.f (.bool true)]:=by
 refine af.of_to kr ?_
 have s0:aa X X n (cat [[]]):=aa.ini ht
 have hm0:ab X X:=ab.rfl
 have hcl:=hc.len
 refine ag ?_
 obtain⟨_,s,J⟩:=ay s0 (.cells (c) true)
 refine ov 2 (J _ _ (vf (.ptr (n) (0)))) (ae 2 (sq (ag ?_)))
 obtain⟨_,m1,s,f1⟩:=aa.frzC s
 have hr:=bo.mono m1 hr
 have hbx:=f1
 refine go 1 (ov 7 (lv l.length hr.lenA) (ov 8 (eF l.length 0) (aj (ar (nx (ai 2 ?_))))))
 obtain⟨_,W,_,_,m2,s,J,⟨k,hk,rfl⟩⟩:=(wd (f:=f) (g:=179) (caps:=[.ptr n 0]) hr h0 hlt kr (fun a b Y m hm ht=>Cc (hm _ _ hbx) hc ht) s.topX).on s
 have hm0:=hm0.tr (m1.tr m2)
 refine ov 11 (J _ _) (ax 2 ?_)
 exact⟨.inr rfl,_,kr,W,_,s,hm0,k,hk,rfl⟩
theorem DQ{X:Heap}{n:Nat}{f:F}{l:List Nat}{k:Nat}(hr:bo X f l)(hlt:l.length<100000)(hk:k∈l)(ht:ap X n):af 150 [vf f,vi k] X n fun v _=>∃i,l[i]?=some k∧v=vi i:=
 (uD hr hlt ht).imp fun v _ h=>by
  rcases h with h | ⟨h,_⟩
  ·exact h
  ·exact(h hk).elim
/-- lists, each of which owns its block -/
def dh{α:Type}(R:α→List F→Prop)(sz:Nat):List (List α)→List F→List (List (Nat×O))→Prop
 |[],[],[]=>True
 |l::ls,f::fl,M::Ps=>(∃fs,av sz f fs M∧aA R sz l fs)∧dh R sz ls fl Ps
 |_,_,_=>False
theorem dh.mono{α:Type}{R S:α→List F→Prop}{sz:Nat}(hRS:∀a c,R a c→S a c):∀{ls:List (List α)} {fl:List F} {Ps:List (List (Nat×O))},dh R sz ls fl Ps→dh S sz ls fl Ps
 |[],[],[],_=>trivial
 |l::ls,f::fl,M::Ps,h=>by
  obtain⟨⟨fs,h1,h2⟩,h3⟩:=h
  exact⟨⟨fs,h1,h2.mono hRS⟩,dh.mono hRS h3⟩
theorem dh.nil{α:Type}(R:α→List F→Prop)(sz:Nat):∀n,dh R sz (List.replicate n []) (List.replicate n .sl0) (List.replicate n [])
 |0=>trivial
 |n+1=>⟨⟨[],av.nil sz,rfl⟩,dh.nil R sz n⟩
theorem dh.at{α:Type}{R:α→List F→Prop}{sz:Nat}:∀{ls:List (List α)} {fl:List F} {Ps:List (List (Nat×O))} {j:Nat} {l:List α},dh R sz ls fl Ps→ls[j]?=some l→∃f M A B fs,fl[j]?=some f∧av sz f fs M∧aA R sz l fs∧Ps=A++M::B∧∀f' l' M' fs',av sz f' fs' M'→aA R sz l' fs'→dh R sz (ls.set j l') (fl.set j f') (A++M'::B)
 |[],[],[],j,l,_,h=>by simp at h
 |x::ls,f::fl,M::Ps,0,l,hb,h=>by
  simp only[List.getElem?_cons_zero,Option.some.injEq]at h
  subst h
  obtain⟨⟨fs,h1,h2⟩,h3⟩:=hb
  exact⟨f,M,[],Ps,fs,rfl,h1,h2,rfl,fun f' l' M' fs' g1 g2=>⟨⟨fs',g1,g2⟩,h3⟩⟩
 |x::ls,f::fl,M::Ps,j+1,l,hb,h=>by
  rw[List.getElem?_cons_succ]at h
  obtain⟨f0,M0,A,B,fs,h1,h2,h3,rfl,h4⟩:=dh.at hb.2 h
  exact⟨f0,M0,M::A,B,fs,h1,h2,h3,rfl,fun f' l' M' fs' g1 g2=>⟨hb.1,h4 f' l' M' fs' g1 g2⟩⟩
theorem dh.len{α:Type}{R:α→List F→Prop}{sz:Nat}:∀{ls:List (List α)} {fl:List F} {Ps:List (List (Nat×O))},dh R sz ls fl Ps→fl.length=ls.length
 |[],[],[],_=>rfl
 |l::ls,f::fl,M::Ps,h=>by simp[dh.len h.2]
theorem aa.spl{X H:Heap}{n:Nat}(C D:List (List (Nat×O))){A B:List (List (Nat×O))}{M:List (Nat×O)}(s:aa X H n (cat (C++cat (A++M::B)::D))):aa X H n (cat (C++M::cat (A++B)::D)):=s.perm (by
 rw[bT C,bT C,cat,cat,cat]
 refine List.Perm.append_left _ ?_
 rw[←List.append_assoc]
 exact List.Perm.append_right _ (jQ A B M))
theorem aa.unspl{X H:Heap}{n:Nat}(C D:List (List (Nat×O))){A B:List (List (Nat×O))}{M:List (Nat×O)}(s:aa X H n (cat (C++M::cat (A++B)::D))):aa X H n (cat (C++cat (A++M::B)::D)):=s.perm (by
 rw[bT C,bT C,cat,cat,cat]
 refine List.Perm.append_left _ ?_
 rw[←List.append_assoc]
 exact List.Perm.append_right _ (jQ A B M).symm)
theorem av.slY{α:Type}{R:Heap→α→List F→Prop}{Y:Heap}{sz:Nat}{a:F}{fs:List F}{M:List (Nat×O)}{l:List α}(h:av sz a fs M)(hc:aA (R Y) sz l fs)(hsz:0<sz)(hY:∀p∈M,Y p.1=some p.2):ch R sz Y a l:=by
 have hcl:=hc.len
 rcases h with⟨rfl,rfl,rfl⟩|⟨k,len,cs,ex,rfl,rfl,hl,rfl⟩
 ·have hc0:0=l.length*sz:=hcl
  rcases Nat.mul_eq_zero.1 hc0.symm with h | h
  ·exact .inl ⟨rfl,List.eq_nil_of_length_eq_zero h⟩
  ·omega
 ·have hk:=hY (k,.cells cs ex) sm
  rw[List.length_take,Nat.min_eq_left hl]at hcl
  have:len=l.length:=Nat.eq_of_mul_eq_mul_right hsz hcl
  subst this
  exact .inr ⟨k,0,none,cs,ex,rfl,hk,om,by rw[List.drop_zero];exact hc⟩
/-- some lists that stay -/
def j2{α:Type}(R:Heap→α→List F→Prop)(sz:Nat)(X:Heap)(ls:List (List α))(fl:List F):Prop:=fl.length=ls.length∧∀(i:Nat) f l,fl[i]?=some f→ls[i]?=some l→ch R sz X f l
theorem dh.frz{α:Type}{R:Heap→α→List F→Prop}{Y:Heap}{sz:Nat}{ls:List (List α)}{fl:List F}{Ps:List (List (Nat×O))}(h:dh (R Y) sz ls fl Ps)(hsz:0<sz)(hY:∀p∈cat Ps,Y p.1=some p.2):j2 R sz Y ls fl:=by
 refine⟨h.len,fun i f l h1 h2=>?_⟩
 obtain⟨f',M,A,B,fs,g1,g2,g3,rfl,_⟩:=h.at h2
 rw[h1]at g1
 cases g1
 exact g2.slY g3 hsz fun p hp=>hY p (by rw[bT,cat];simp[hp])
theorem C9{α:Type}{bk:List (List α)}{j:Nat}{l:List α}{x:α}(h:bk[j]?=some l):((bk.set j (l++[x])).flatten).Perm (bk.flatten++[x]):=by
 induction bk generalizing j with
 |nil=>simp at h
 |cons y bk ih=>
  cases j with
  |zero=>
   simp only[List.getElem?_cons_zero,Option.some.injEq]at h
   subst h
   simp only[List.set_cons_zero,List.flatten_cons,List.append_assoc]
   exact List.Perm.append_left _ List.perm_append_comm
  |succ j=>
   rw[List.getElem?_cons_succ]at h
   simp only[List.set_cons_succ,List.flatten_cons,List.append_assoc]
   exact List.Perm.append_left _ (ih h)
theorem aa.addN{X H:Heap}{n:Nat}{L:List (List (Nat×O))}{Q:List (Nat×O)}(s:aa X H n (cat L))(h:Q=[]):aa X H n (cat (L++[Q])):=by
 rw[bT,fP,h,List.append_nil];exact s
theorem Bn{X:Heap}{n:Nat}{ip ik u B N M:Nat}{f g:F}{rs:List Rc}{l:List Nat}(hr:ch (cA ip ik u B N M) 10 X f rs)(hp:bo X g l)(h0:0<l.length)(hll:l.length<1000)(hrsl:rs.length<1000)(hd:∀r∈rs,r.d.length=N)(hN:0<N)(hN2:N≤64)(ht:ap X n):af 109 [vf (f),vf (g)] X n fun v X'=>∃k fl rows,v=vf (.sl k 0 1 l.length none)∧X' k=some (.cells fl true)∧j2 (cA ip ik u B N M) 10 X' rows fl∧rows.length=l.length∧rows.flatten.Perm rs:=by
 refine af.of_to kr ?_
 have s0:aa X X n (cat [[]]):=aa.ini ht
 have hm0:ab X X:=ab.rfl
 refine ah 1 (aP 1 (ov 12 (lv l.length hp.lenA) (ov 13 (eF l.length 0) (aj (ar (nx (ai 1 (ov 15 (lv l.length hp.lenA) ?_))))))))
 obtain⟨_,s,J⟩:=yx (a:=l.length) s0 (⟨1,24,[.sl0]⟩:TI) (by simp only;omega) (cs:=List.replicate l.length .sl0) (qJ _ _)
 refine ov 16 (J _ _) ?_
 have s1:=aa.addN s (by exact rF [] l.length)
 refine ae 1 (aP 1 (ov 18 (lv rs.length hr.lenA) (ae 1 (bk 0 (lp (aC.for (rs.length) (fun i A Hq nq=>∃(Y:Heap) (fl:List F) (Ps:List (List (Nat×O))) (rows:List (List Rc)),aL A [(1,vf (g)),(5,vf (.sl (n) (0) 1 (l.length) none)),(17,vf (f)),(18,vi rs.length),(19,vi i)]∧aa Y Hq nq (cat [[(n,.cells (fl) true)],cat Ps])∧(ab X Y)∧(ch (cA ip ik u B N M) 10 Y f rs)∧(bo Y g l)∧(dh (cA ip ik u B N M Y) 10 rows fl Ps)∧(rows.length=l.length)∧(rows.flatten.Perm (rs.take i))) ⟨X,List.replicate l.length .sl0,List.replicate l.length [],List.replicate l.length [],az (ts:=[1,5,17,18,19]) kr,s1,(hm0),(hr),(hp),(dh.nil _ 10 _),(List.length_replicate ..),(by rw[List.flatten_replicate_nil];exact List.Perm.refl _)⟩ (fun i A H n1 hi hI=>?_) (fun A H n1 hI=>?_)))))))
 ·obtain⟨Y,fl,Ps,rows,qA,s2,hm0,hr,hp,how,hrl,hpm⟩:=hI
  refine To.keep _ ?_ qA.sub
  obtain⟨r,hx⟩:∃r,rs[i]?=some r:=⟨_,List.getElem?_eq_getElem hi⟩
  obtain⟨id,off,cap,all,exb,c,rfl,h2,h3,h4,hR⟩:=hr.at hx
  obtain⟨gd,rfl,hgd⟩:=hR
  have hdl:=hd r (List.mem_of_getElem? hx)
  refine ag (ov 20 (lT i rs.length) (aQ (aM (nx (aD 1 (ag (ov 21 (ix id off 10 rs.length i) (ov 22 (aG (id:=id) (off:=off+i*10) (sz:=10) (c:=[iN ip,iN ik,iN B,iN N,iN M,iN r.b,iN r.e,.bool false,iN u,gd]) (s2.mono _ _ h2) h3 h4) ?_))))))))
  obtain⟨_,s3,J⟩:=ay s2 (.cells [.int .i64 0,.int .i64 0,.int .i64 0,.int .i64 0,.int .i64 0,.int .i64 0,.int .i64 0,.bool false,.int .i64 0,.sl0] true)
  refine ov 7 (J _ _ (vf (.ptr (n1) (0)))) ?_
  obtain⟨_,s4,J⟩:=aI (off:=0) (new:=[iN ip,iN ik,iN B,iN N,iN M,iN r.b,iN r.e,.bool false,iN u,gd]) (cs':=[iN ip,iN ik,iN B,iN N,iN M,iN r.b,iN r.e,.bool false,iN u,gd]) s3 0 rfl sm rfl
  refine oe (J _ _) (aj (ag (ov 24 (la 0 10 [iN ip,iN ik,iN B,iN N,iN M,iN r.b,iN r.e,.bool false,iN u,gd] (s4.at 0 rfl)) ?_)))
  obtain⟨_,_,_,_,m,s5,J,⟨kc,rfl,hkc⟩⟩:=((EO (ip:=ip) (ik:=ik) (u:=u) (B:=B) (N:=N) (M:=M) (b:=r.b) (e:=r.e) (g:=gd) s4.topX).imp (Post':=fun v _=>∃kc,v=.u (.agg kc)∧dj kc) fun v _ h=>⟨_,h,iI _⟩).on s4
  have hp:=bo.mono m hp
  refine ov 25 (J _ _) ?_
  have hkcl:=hkc.len
  refine go 1 ?_
  obtain⟨_,_,_,_,m1,s6,J,⟨p,hpl,rfl⟩⟩:=(DM hkc hp h0 om s5.topX).on s5
  have hp:=bo.mono m1 hp
  refine ov 27 (J _ _) (ae 5 (ai 2 ?_))
  obtain⟨_,_,_,_,m2,s7,J,⟨j,hj,rfl⟩⟩:=(DQ hp om hpl s6.topX).on s6
  have hgd:=hgd.mono (m.tr (m1.tr m2))
  refine ov 32 (J _ _) ?_
  have hjl:=(List.getElem?_eq_some_iff.1 hj).1
  refine ae 1 (ai 1 (ov 34 (ld 9 (s7.at 0 rfl) rfl) ?_))
  obtain⟨_,_,_,n2,m3,s8,J,⟨g2,rfl,hg2⟩⟩:=(nO hgd om om s7.topX).on s7
  have how:=how.mono fun a c h=>cA.mono _ _ _ _ (m.tr (m1.tr (m2.tr m3))) h
  refine ov 35 (J _ _) ?_
  have hfll:=how.len
  obtain⟨a,ha⟩:∃a,fl[j]?=some a:=⟨_,List.getElem?_eq_getElem om⟩
  obtain⟨row,hrow⟩:∃row,rows[j]?=some row:=⟨_,List.getElem?_eq_getElem om⟩
  have hrle:row.length≤rs.length:=by
   have h1:=(List.sublist_flatten_of_mem (List.mem_of_getElem? hrow)).length_le
   have h2:=hpm.length_eq
   rw[List.length_take]at h2
   omega
  refine go 1 ?_
  obtain⟨_,s10,J⟩:=aI (off:=9) (new:=[g2]) (cs':=[iN ip,iN ik,iN B,iN N,iN M,iN r.b,iN r.e,.bool false,iN u,g2]) s8 0 rfl sm rfl
  refine oe (J _ _) (aj (dw [2,3,4,5,6,7,8,0,1,9,10] (sg [2,3] (ss (some 41) (bD (id:=n) (off:=0) (sz:=1) (len:=l.length) (k:=j) om) (sr (some 42) (n) trivial (am (id:=n) (off:=0+j*1) (x:=a) (s10.at 1 rfl) (by rw[Nat.zero_add,Nat.mul_one];exact ha)) (sr (some 43) (n1) trivial (aG (off:=0) (sz:=10) (c:=[iN ip,iN ik,iN B,iN N,iN M,iN r.b,iN r.e,.bool false,iN u,g2]) (s10.at 0 rfl) sm rfl) ?_))))))
  obtain⟨W,_,s11,m4,f1,J⟩:=bj s10 (.cells [iN ip,iN ik,iN B,iN N,iN M,iN r.b,iN r.e,.bool false,iN u,g2] true)
  have hm0:=hm0.tr (m.tr (m1.tr (m2.tr (m3.tr m4))))
  have hr:=hr.mono (cA.mono (ip:=ip) (ik:=ik) (u:=u) (B:=B) (N:=N) (M:=M)) (m.tr (m1.tr (m2.tr (m3.tr m4))))
  have hp:=bo.mono (m2.tr (m3.tr m4)) hp
  have how:=how.mono fun a c h=>cA.mono _ _ _ _ m4 h
  have hg2:=hg2.mono m4
  refine sf (some 44) (J _ _ (vf (.sl (n2) (0) 10 (1) none))) ⟨ki,ke (s10.at 1 rfl) (s11.at 1 rfl),trivial⟩ ?_
  obtain⟨a2,M2,A2,B2,fs,h5,hos,hcs,rfl,h6⟩:=how.at hrow
  obtain rfl:a=a2:=Option.some.inj (ha.symm.trans h5)
  have hcl:=hcs.len
  have s12:=aa.spl [_] [] s11
  obtain⟨a1,_,_,_,ho309,s13,J⟩:=b6 (sz:=10) (bytes:=96) (x:=.sl (n2) (0) 10 (1) none) (new:=[iN ip,iN ik,iN B,iN N,iN M,iN r.b,iN r.e,.bool false,iN u,g2]) [_] [_] s12 (hos) (bf (s12.mono _ _ f1) rfl) (rfl) om om
  refine sf (some 45) (J _ _) (oR kr) (sg [0,1] (ss (some 46) (bD (id:=n) (off:=0) (sz:=1) (len:=l.length) (k:=j) om) ?_))
  obtain⟨_,s14,J⟩:=aI (off:=0+j*1) (new:=[a1]) (cs':=fl.set j a1) s13 1 rfl (by simp;omega) (by rw[Nat.zero_add,Nat.mul_one];exact mf om)
  refine sf none (J _ _) (oR kr) (sx (nx (rg ?_)))
  have s15:=aa.unspl [_] [] s14
  have s16:=aa.tl s15
  refine ov 47 (aN i 1) (aR 1 ?_)
  exact .inl ⟨rfl,W,_,_,_,az (ts:=[1,5,17,18,19]) kr,s16,(hm0),(hr),(hp),(h6 _ (row++[r]) _ _ ho309 (hcs.snoc ⟨g2,rfl,hg2⟩ rfl)),(by rw[List.length_set];exact hrl),(by rw[bU hx];exact(C9 hrow).trans (hpm.append_right _))⟩
 ·obtain⟨Y,fl,Ps,rows,qA,s17,hm0,hr,hp,how,hrl,hpm⟩:=hI
  refine To.keep _ ?_ qA.sub
  refine ag (ov 20 (lF rs.length rs.length) (aj ?_))
  rw[List.take_length]at hpm
  obtain⟨s9,hm9,hY⟩:=aa.frzQ (M:=[]) (by rw[List.append_nil];exact s17)
  refine sq (iF (xt 0 ?_))
  refine⟨sm,?_⟩
  show To Tryz.prog 109 [1,1,1,1] _ _ _ _
  refine ah 2 (rt ?_)
  exact⟨.inr rfl,_,kr,_,_,s9,hm0.tr hm9,n,fl,rows,rfl,hY (n,.cells fl true) (by simp[cat]),dh.frz (R:=cA ip ik u B N M) (how.mono fun a c h=>cA.mono _ _ _ _ hm9 h) om (fun p hp=>hY p (by simp only[cat,List.append_nil]at hp⊢;exact List.mem_append_right _ hp)),hrl,hpm⟩
end Go.Proofs.YtkimkgbppegkhaaGreat.Cm
namespace Go.Proofs.YtkimkgbppegkhaaGreat.Cm
open Go Go.Shelf Go.RowKit Go.Lib
theorem nL{P:Program}(w w2:World)(dT sT ty elem:TypeId)(sz b o dLen dCap:Nat)(a:Addr)(sLen sCap m:Nat)(cs:List Value)
 (hu:P.underlying dT=some (.slice elem)) (hs:(P.info? elem).map (·.size)=some sz) (hm:Nat.min sLen dLen=m) (hn:cs.length=m*sz)
 (hsrc:∀j v,cs[j]?=some v→w.cell? (a.add j)=some v) (hst:(storeCells ⟨b,o,none⟩ cs).run P w=.ok () w2):
 (Builtin.copy_ #[dT,sT] ty #[.slice (some ⟨b,o,none⟩) dLen dCap,.slice (some a) sLen sCap]).run P w=.ok (goInt m) w2:=by
 have hl:=run_loadCells_list (P:=P) w a cs hsrc
 cases hq:P.info? elem with
 |none=>simp[hq]at hs
 |some i=>
  have hi:i.size=sz:=by simpa[hq]using hs
  simp[Builtin.copy_,run_underlying hu,Builtin.lenOf,Builtin.firstCells,sizeOf,typeInfo,hq,hi,hm,←hn,hl,hst]
theorem l9:Tryz.prog.underlying 34=some (.slice 40):=by kernel_rfl
theorem l5:(Tryz.prog.info? 40).map (·.size)=some 10:=by kernel_rfl
theorem HS(w:World):(Go.sizeOf 40).run Tryz.prog w=.ok 10 w:=by
 cases hq:Tryz.prog.info? 40 with
 |none=>have:=l5;simp[hq]at this
 |some i=>have:=l5;simp[hq]at this;simp[sizeOf,typeInfo,hq,this]
set_option maxHeartbeats 4000000 in
set_option maxRecDepth 100000 in
theorem Ej (b n c i vb vc:Nat) (cs vs:List Value) (w w1 w2:World) (hi:i<n) (hroom:n+1≤c) (hn:n≤100000) (hvb:vb≠b)
 (hcl:cs.length=n*10) (hvl:vs.length=10)
 (hcs:∀j v,cs[j]?=some v→w.cell? ⟨b,j,none⟩=some v)
 (hvs:∀j v,vs[j]?=some v→w1.cell? ⟨vb,j,none⟩=some v)
 (hs1:(storeCells ⟨b,(i+1)*10,none⟩ (cs.drop (i*10))).run Tryz.prog w.drew=.ok () w1)
 (hs2:(storeCells ⟨b,i*10,none⟩ vs).run Tryz.prog w1=.ok () w2)
 (tA tB:TypeId) (kA kB:Nat) (hsa:w.shape? vb=some (tA,kA)) (hsb:w.shape? b=some (tB,kB)) (hkB:kB≠0) (hfa:w.frozen? ⟨vb,0,none⟩=false) (hfe:w.frozen? ⟨vb,kA,none⟩=false):
 Calls Tryz.prog 243 #[.slice (some ⟨b,0,none⟩) n c,.int .i64 i,.slice (some ⟨vb,0,none⟩) 1 vc] w fun e w'=>
  e=.returned (.slice (some ⟨b,0,none⟩) (n+1) c)∧w'=w2:=by
 have hov:∀lb cb,(callFunc 252 #[.slice (some ⟨vb,0,none⟩) 1 vc,.slice (some ⟨b,(i+1)*10,none⟩) lb cb]).run Tryz.prog w=.ok (.value (.bool false)) w:=fun lb cb=>by
  rw[run_callFunc_extern Tryz.func252 kr kr kr (e:=Extern.SlicesOverlaps.overlaps #[34,34] #[4]) kr,
   Lib.run_overlaps_apart w 34 4 40 l9 10 HS ⟨vb,0,none⟩ ⟨b,(i+1)*10,none⟩ 1 vc lb cb hvb tA tB kA kB hsa hsb hkB hfa hfe]
  rfl
 have hdl:(cs.drop (i*10)).length=(n-i)*10:=by rw[List.length_drop,hcl];omega
 have mixed:Tryz.prog.follows .mixedOrders=true:=by kernel_rfl
 have hw1:IntKind.i64.wrap ((i:Int)+1)=(i:Int)+1:=by rw[IntKind.wrap_i64];omega
 have hb1:(0:Int)≤(i:Int)+1:=by omega
 have hin:i≤n:=by omega
 have htn:((i:Int)+1).toNat=i+1:=by omega
 have hb2:¬(c=i+1):=by omega
 have hb3:(i:Int)≤(n:Int)+1:=by omega
 have hb4:¬(c=i):=by omega
 have hz2:¬((i:Int)=(n:Int)):=by omega
 have hcp1:∀ty dc sc,(Builtin.copy_ #[34,34] ty #[.slice (some ⟨b,(i+1)*10,none⟩) (n-i) dc,.slice (some ⟨b,i*10,none⟩) (n+1-i) sc]).run Tryz.prog w.drew=.ok (goInt ((n-i:Nat):Int)) w1:=fun ty dc sc=>
  nL w.drew w1 _ _ ty 40 10 b ((i+1)*10) (n-i) dc ⟨b,i*10,none⟩ (n+1-i) sc (n-i) (cs.drop (i*10)) l9 l5 (by simp only[Nat.min_def]; split<;>omega) hdl
   (fun j v hj=>by rw[Addr.add_lit];exact hcs (i*10+j) v (by rwa [List.getElem?_drop]at hj)) hs1
 have hcp2:∀ty dc,(Builtin.copy_ #[34,34] ty #[.slice (some ⟨b,i*10,none⟩) (n+1-i) dc,.slice (some ⟨vb,0,none⟩) 1 vc]).run Tryz.prog w1=.ok (goInt ((1:Nat):Int)) w2:=fun ty dc=>
  nL w1 w2 _ _ ty 40 10 b (i*10) (n+1-i) dc ⟨vb,0,none⟩ 1 vc 1 vs l9 l5 (by simp only[Nat.min_def]; split<;>omega) om
   (fun j v hj=>by rw[Addr.add_lit,Nat.zero_add];exact hvs j v hj) hs2
 go_enter Tryz.func243,Tryz.ntmps243
 go_wp2_with (simp only[hov])
 go_region_law_o (refine step_copy_runI rfl _ _ 34 34 rfl _ _ (by simp[Act.eval,Act.put]) (by simp[Act.eval,Act.put]) (hcp1 _ _ _) ?_)
 go_wp2_with (at_builtin;refine wpList_copy_runI _ rfl _ _ 34 34 rfl _ _ rfl rfl (hcp2 _ _) ?_)
 go_ret
 exact⟨rfl,rfl⟩
theorem HG:∃i,Tryz.prog.info? 40=some i∧i.size=10∧i.bytes≤1000∧∃z,i.zero=some z∧z.cells.size=10:=
 ⟨Tryz.t40,kr,kr,Nat.le_of_ble_eq_true kr,Tryz.t40.zero.getD (.bool false),kr,kr⟩
set_option maxHeartbeats 4000000 in
set_option maxRecDepth 100000 in
theorem Fh (b n i vb vc:Nat) (cs vs:List Value) (w W2 W3:World) (ie:TypeInfo) (z:Value) (h1:Tryz.prog.info? 40=some ie) (hz40:ie.zero=some z) (hsz:ie.size=10) (hby:ie.bytes≤1000) (hi:i<n) (hn:n≤100000) (hvb:vb<w.heap.size) (hbw:b<w.heap.size)
 (hcl:cs.length=n*10) (hvl:vs.length=10)
 (hcs:∀j v,cs[j]?=some v→w.cell? ⟨b,j,none⟩=some v)
 (hcs2:∀j v,cs[j]?=some v→W2.cell? ⟨b,j,none⟩=some v)
 (hvs:∀j v,vs[j]?=some v→w.cell? ⟨vb,j,none⟩=some v)
 (G:Nat) (ROW:Array Value) (hG:grownCap w (n+1) n 40=G) (hROW:(cs.take (i*10)).toArray++Builtin.zeroCells z.cells (n+1-i)++Builtin.zeroCells z.cells (G-(n+1))=ROW)
 (hs2:(storeCells ⟨w.heap.size,i*10,none⟩ vs).run Tryz.prog (w.alloc (.cells ROW 40)).drew=.ok () W2)
 (hs3:(storeCells ⟨w.heap.size,(i+1)*10,none⟩ (cs.drop (i*10))).run Tryz.prog W2.drew=.ok () W3):
 Calls Tryz.prog 243 #[.slice (some ⟨b,0,none⟩) n n,.int .i64 i,.slice (some ⟨vb,0,none⟩) 1 vc] w fun e w'=>
  e=.returned (.slice (some ⟨w.heap.size,0,none⟩) (n+1) G)∧w'=W3:=by
 have hdl:(cs.drop (i*10)).length=(n-i)*10:=by rw[List.length_drop,hcl];omega
 have mixed:Tryz.prog.follows .mixedOrders=true:=by kernel_rfl
 have hkk:(n:Int)+1-(i:Int)=((n+1-i:Nat):Int):=by omega
 have hik:i+(n+1-i)=n+1:=by omega
 have hold:(Builtin.firstCells ie.size i (.slice (some ⟨b,0,none⟩) i n)).run Tryz.prog w.drew=.ok (cs.take (i*10)).toArray w.drew:=by
  rw[hsz]
  exact run_firstCells_some w.drew 10 i ⟨b,0,none⟩ i n (cs.take (i*10)) (by rw[List.length_take];omega) (fun j v hj=>by
   rw[Addr.add_lit,Nat.zero_add]
   rw[List.getElem?_take]at hj
   split at hj
   ·exact hcs j v hj
   ·cases hj)
 have hGn:n+1≤G:=by rw[←hG];exact grownCap_ge w _ _ _
 have hGi:¬(G=i):=by omega
 have hGim:¬(G=i+1):=by omega
 have hG63:G≤9223372036854775807:=by
  have:=grownCap_le_maxLen w (n+1) n 40 (by unfold maxLen;omega)
  rw[hG]at this
  unfold maxLen at this
  omega
 have hrz:∀ty,(Builtin.append_ #[34,3] ty #[.slice (some ⟨b,0,none⟩) i n,.int .i64 ((n:Int)+1-(i:Int))]).run Tryz.prog w=
  .ok (.slice (some ⟨w.heap.size,0,none⟩) (n+1) G) (w.drew.alloc (.cells ROW 40)):=fun ty=>by
  have h:=Lib.run_append_grow_zeros w 34 3 ty 40 ie z .i64 .i64 l9 kr h1 hz40 (some ⟨b,0,none⟩) i n (cs.take (i*10)) hold (n+1-i) om om om om
   (by have:=Nat.mul_le_mul (show n+1-i≤100001 by omega) hby;omega) (by rw[hik];exact growslice_fits om (by have:=Nat.mul_le_mul (show n+1≤100001 by omega) hby;omega))
  rw[hik,hG,hROW]at h
  rw[hkk]
  exact h
 have hci:¬(n=i):=by omega
 have hw1:IntKind.i64.wrap ((i:Int)+1)=(i:Int)+1:=by rw[IntKind.wrap_i64];omega
 have hb1:(0:Int)≤(i:Int)+1:=by omega
 have hin:i≤n:=by omega
 have htn:((i:Int)+1).toNat=i+1:=by omega
 have hb3:(i:Int)≤(n:Int):=by omega
 have hz2:¬((i:Int)=(n:Int)):=by omega
 have hz3:(n:Int)<(n:Int)+1:=by omega
 have hcpA:∀ty dc,(Builtin.copy_ #[34,34] ty #[.slice (some ⟨w.heap.size,i*10,none⟩) (n+1-i) dc,.slice (some ⟨vb,0,none⟩) 1 vc]).run Tryz.prog (w.alloc (.cells ROW 40)).drew=.ok (goInt ((1:Nat):Int)) W2:=fun ty dc=>
  nL (w.alloc (.cells ROW 40)).drew W2 _ _ ty 40 10 w.heap.size (i*10) (n+1-i) dc ⟨vb,0,none⟩ 1 vc 1 vs l9 l5 (by simp only[Nat.min_def]; split<;>omega) om
   (fun j v hj=>by rw[Addr.add_lit,Nat.zero_add];exact(World.cell?_alloc_past (w:=w) _ vb j hvb).trans (hvs j v hj)) hs2
 have hcpB:∀ty dc sc,(Builtin.copy_ #[34,34] ty #[.slice (some ⟨w.heap.size,(i+1)*10,none⟩) (n-i) dc,.slice (some ⟨b,i*10,none⟩) (n-i) sc]).run Tryz.prog W2.drew=.ok (goInt ((n-i:Nat):Int)) W3:=fun ty dc sc=>
  nL W2.drew W3 _ _ ty 40 10 w.heap.size ((i+1)*10) (n-i) dc ⟨b,i*10,none⟩ (n-i) sc (n-i) (cs.drop (i*10)) l9 l5 (by simp only[Nat.min_def]; split<;>omega) hdl
   (fun j v hj=>by rw[Addr.add_lit];exact hcs2 (i*10+j) v (by rwa [List.getElem?_drop]at hj)) hs3
 clear hkk hik hold hROW hG
 go_enter Tryz.func243,Tryz.ntmps243
 go_wp2_with (first
  |(at_builtin;refine Lib.wpList_append_run _ rfl _ _ _ _ rfl _ _ rfl rfl _ _ (hrz _) ?_)
  |(at_builtin;refine wpList_copy_runI _ rfl _ _ 34 34 rfl _ _ rfl rfl (hcpA _ _) ?_))
 go_region_law_o (refine step_copy_runI rfl _ _ 34 34 rfl (.slice (some ⟨w.heap.size,(i+1)*10,none⟩) (n-i) (G-(i+1))) (.slice (some ⟨b,i*10,none⟩) (n-i) (n-i)) (by simp[Act.eval,Act.put]) (by simp[Act.eval,Act.put]) (hcpB 3 (G-(i+1)) (n-i)) ?_)
 go_wp2
 go_ret
 exact⟨rfl,rfl⟩
end Go.Proofs.YtkimkgbppegkhaaGreat.Cm
