/- The clean machine's walks of records (1): numbers as bytes, what may be a record, rows joined. · The clean machine's walks of records (2): records as bytes, and back. -/
import Derived.Test.YtkimkgbppegkhaaGreatTs
import Derived.Test.YtkimkgbppegkhaaGreatGo
set_option linter.unusedVariables false
set_option linter.unusedSimpArgs false
namespace Go.Proofs.YtkimkgbppegkhaaGreat.Cm
open Go Go.RowKit Go.Proofs.YtkimkgbppegkhaaGreat.Gf
set_option maxRecDepth 1000000
theorem t7{ls:List (List Nat)}{i:Nat}(h:i<ls.length):(ls.take (i+1)).flatten.length=(ls.take i).flatten.length+ls[i].length∧(ls.take (i+1)).flatten.length≤ls.flatten.length:=by
 constructor
 ·rw[e_ h,List.flatten_append,List.length_append];simp only[List.flatten_cons,List.flatten_nil,List.append_nil]
 ·have:ls.flatten=(ls.take (i+1)).flatten++(ls.drop (i+1)).flatten:=by rw[←List.flatten_append,List.take_append_drop]
  rw[this,List.length_append];omega
theorem eG{X:Heap}{n:Nat}{v w:Nat}(hw:w≤8)(hw0:0<w)(ht:ap X n):af 134 [vi v,vi w] X n fun r X'=>∃g,r=vf g∧aB X' g (bq w v):=by
 refine af.of_to kr ?_
 have s0:aa X X n (cat [[]]):=aa.ini ht
 have hm0:ab X X:=ab.rfl
 refine ah 1 (ai 1 ?_)
 obtain⟨H1,s2,J3⟩:=yx (a:=w) s0 ⟨1,1,[.int .u8 0]⟩ (by simp only;omega) (cs:=(bs (bq w v)).take 0++(bs (zs w)).drop 0) (by simpa using mz _)
 refine ov 8 (J3 _ _) (ae 1 (aP 1 (ov 10 (ln w) (ae 1 (bk 0 (lp (aC.for (w) (fun i A Hq nq=>∃(Y:Heap),aL A [(0,vi v),(1,vi w),(5,vf (.sl (n) (0) 1 (w) none)),(10,vi w),(11,vi i)]∧aa Y Hq nq (cat [[(n,.cells ((bs (bq w v)).take i++(bs (zs w)).drop i) true)]])∧(ab X Y)) ⟨X,az (ts:=[0,1,5,10,11]) kr,s2,(hm0)⟩ (fun i A H4 n5 hi hI=>?_) (fun A H4 n5 hI=>?_))))))))
 ·obtain⟨Y,hT,s6,hm0⟩:=hI
  refine To.keep _ ?_ hT.sub
  refine ag (ov 12 (lT i w) (aQ (aM (nx (aD 1 (ah 2 (rg (go 4 (ov 18 (sN w 1) (go 1 (ov 20 (sN ((w)-1) i) (ov 21 (au (yK (8) (((w)-1)-i) om)) (ov 22 (au (zd .i64 (v) (8*(((w)-1)-i)) om)) (ov 23 (eR (jY ((v)/2 ^ (8*(((w)-1)-i))))) (ov 24 (ix n 0 1 w i) ?_)))))))))))))))
  obtain⟨H7,s8,J9⟩:=aI (off:=0+i*1) (new:=[.int .u8 ((((v)/2 ^ (8*(((w)-1)-i)))%256:Nat):Int)]) (cs':=(bs (bq w v)).take (i+1)++(bs (zs w)).drop (i+1)) s6 0 rfl (by simp[bg,de];omega) (by rw[Nat.zero_add,Nat.mul_one];exact vW (by simp[bg,de]) (gk (by simp[bq,hi])))
  refine oe (J9 _ _) (aj (rg (ov 25 (aN i 1) (aR 1 ?_))))
  exact .inl ⟨rfl,Y,az (ts:=[0,1,5,10,11]) kr,s8,(hm0)⟩
 ·obtain⟨Y,hT,s,hm0⟩:=hI
  refine To.keep _ ?_ hT.sub
  refine ag (ov 12 (lF w w) (aQ (iF (xt 0 ?_))))
  refine⟨sm,?_⟩
  show To Tryz.prog 134 [1,1,1] _ _ _ _
  refine ah 2 (rt ?_)
  obtain⟨g1,g2⟩:=aa.frz (M:=[]) s
  exact⟨.inr rfl,vf (.sl n 0 1 w none),kr,_,_,g1,hm0.tr g2,_,rfl,by rw[List.take_of_length_le (by simp[bg,de]),List.drop_of_length_le (by simp[bg]),List.append_nil];exact bf (bG _ _ _) (by simp[bg,de]),ga _ _,by rw[de];omega⟩
theorem BW{X:Heap}{n:Nat}{f:F}(l:List Nat)(hr:aB X f l)(h4:l.length≤4)(ht:ap X n):af 181 [vf (f)] X n fun v _=>v=vi (whole l):=by
 refine af.of_to kr ?_
 have s0:aa X X n (cat [[]]):=aa.ini ht
 have hm0:ab X X:=ab.rfl
 refine ah 1 (ah 1 (aP 1 (ov 7 (lv l.length hr.lenA) (ae 1 (bk 0 (lp (aC.for (l.length) (fun i A Hq nq=>∃(Y:Heap) (t:Nat),aL A [(3,vi t),(6,vf (f)),(7,vi l.length),(8,vi i)]∧aa Y Hq nq (cat [[]])∧(ab X Y)∧(aB Y f l)∧(t=whole (l.take i))) ⟨X,0,az (ts:=[3,6,7,8]) kr,s0,(hm0),(hr),(rfl)⟩ (fun i A H n1 hi hI=>?_) (fun A H n1 hI=>?_))))))))
 ·obtain⟨Y,t,hT,s,hm0,hr,ht⟩:=hI
  refine To.keep _ ?_ hT.sub
  obtain⟨id,off,cap,rfl,hat⟩:=hr.sl om
  have hc:l[i]<256:=hr.2.1 _ (List.getElem_mem hi)
  have hb:=En (l.take i) fun x hx=>hr.2.1 x (List.mem_of_mem_take hx)
  have hb2:256 ^ (l.take i).length≤256 ^ 4:=Nat.pow_le_pow_right om (by rw[List.length_take];omega)
  have h1:=hi
  refine ag (ov 9 (lT i l.length) (aQ (aM (nx (aD 1 (ag (ov 10 (ix id off 1 l.length i) (ov 11 (lx id (off+i*1) (.int .u8 ((l[i]:Nat):Int)) (by rw[Nat.mul_one];exact(hat i _ (List.getElem?_eq_getElem hi)).mono (s.mono _))) ?_))))))))
  refine ae 1 (rg (go 1 (ov 13 (au (GT .u64 t om)) (go 1 (ov 15 (eR (ze (l[i]) om)) (ov 16 (au (Hp t l[i] hc om)) (ae 1 (rg (ov 17 (aN i 1) (aR 1 ?_))))))))))
  exact .inl ⟨rfl,Y,t*256+l[i],az (ts:=[3,6,7,8]) kr,s,(hm0),(hr),(by rw[e_ hi,u6,ht])⟩
 ·obtain⟨Y,t,hT,s,hm0,hr,ht⟩:=hI
  refine To.keep _ ?_ hT.sub
  refine ag (ov 9 (lF l.length l.length) (aQ (iF (xt 0 ?_))))
  refine⟨sm,?_⟩
  show To Tryz.prog 181 [1,1,1] _ _ _ _
  refine ah 2 (rt ?_)
  exact⟨.inr rfl,vi t,kr,Y,_,s,hm0,by rw[ht,List.take_length]⟩
theorem i5{X:Heap}{n:Nat}{a lo hi:Nat}(h1:lo≤a)(h2:a≤hi)(ht:ap X n):af 224 [vi a,vi lo,vi hi] X n fun v _=>v=vf (.bool true):=by
 refine af.of_to kr ?_
 have s0:aa X X n (cat [[]]):=aa.ini ht
 have hm0:ab X X:=ab.rfl
 refine ah 1 (ai 2 (ov 9 (hT a lo) (go 3 (ov 13 (kT a hi) (ax 2 ?_)))))
 exact⟨.inr rfl,_,kr,X,_,s0,hm0,rfl⟩
/-- a symbol's numbers are within their bounds -/
structure np(ip ik u B N M b e:Nat):Prop where
 ip:ip≤2147483647
 ik1:1≤ik
 ik:ik≤2147483647
 u:u≤2147483647
 sh:b7 B N M
 b:b<blkS B N M
 e:e≤16777215
theorem qL{X:Heap}{n:Nat}{ip ik u B N M b e:Nat}{g:F}{d:List Nat}(h:np ip ik u B N M b e)(hg:aB X g d)(hd:d.length=N)(ht:ap X n):af 182 [.u (.agg [iN ip,iN ik,iN B,iN N,iN M,iN b,iN e,.bool false,iN u,g])] X n fun v _=>v=vf (.bool true):=by
 refine af.of_to kr ?_
 have s0:aa X X n (cat [[]]):=aa.ini ht
 have hm0:ab X X:=ab.rfl
 obtain⟨h1,h2,h3,h4,h5,h6,h7⟩:=h
 have hbp:=iB h5
 refine ag ?_
 obtain⟨_,s,J⟩:=ay s0 (.cells [iN ip,iN ik,iN B,iN N,iN M,iN b,iN e,.bool false,iN u,g] true)
 refine ov 1 (J _ _ (vf (.ptr (n) (0)))) (ae 1 (aP 2 (ov 5 (ld 0 (s.at 0 rfl) rfl) ?_)))
 obtain⟨_,_,_,_,m,s1,J,rfl⟩:=(i5 (a:=ip) (lo:=0) (hi:=2147483647) om om s.topX).on s
 refine ov 6 (J _ _) (go 4 (ov 11 (ld 1 (s1.at 0 rfl) rfl) ?_))
 obtain⟨_,_,_,_,m1,s2,J,rfl⟩:=(i5 (a:=ik) (lo:=1) (hi:=2147483647) om om s1.topX).on s1
 refine ov 12 (J _ _) (go 4 (ov 17 (ld 8 (s2.at 0 rfl) rfl) ?_))
 obtain⟨_,_,_,_,m2,s3,J,rfl⟩:=(i5 (a:=u) (lo:=0) (hi:=2147483647) om om s2.topX).on s2
 refine ov 18 (J _ _) (ae 2 (ar (nx (aP 1 (ov 22 (ld 7 (s3.at 0 rfl) rfl) (aj (ar (nx (sq (dw [0,1,2,3,6,7,8,4,5,9,10,11,12,13,14,15,16,17,18,19,20,21,22,23,24,25,26] (sg [0] (sr (some 44) (n) trivial (aG (off:=2) (sz:=3) (c:=[iN B,iN N,iN M]) (s3.at 0 rfl) sm rfl) ?_))))))))))))
 obtain⟨_,_,_,_,m3,s4,J,rfl⟩:=(kJ h5 s3.topX).on s3
 refine sf (some 45) (J _ _) (oR kr) (sg [3,6] (sr (some 50) (n) (oE kr) (aG (off:=2) (sz:=3) (c:=[iN B,iN N,iN M]) (s4.at 0 rfl) sm rfl) ?_))
 obtain⟨_,_,_,_,m4,s5,J,rfl⟩:=(md h5 s4.topX).on s4
 refine sf (some 51) (J _ _) (oR kr) (sg [4] (sr (some 48) (n) ⟨ke (s4.at 0 rfl) (s5.at 0 rfl),ki,trivial⟩ (am (off:=5) (s5.at 0 rfl) rfl) (ss (some 52) (au (iH (blkS B N M) (1) om om)) ?_)))
 obtain⟨_,_,_,_,m5,s6,J,rfl⟩:=(i5 (a:=b) (lo:=0) (hi:=blkS B N M-1) om om s5.topX).on s5
 refine sf (some 53) (J _ _) (oR kr) (sg [11,12,13] (sr (some 57) (n) (oE kr) (am (off:=6) (s6.at 0 rfl) rfl) ?_))
 obtain⟨_,W,_,_,m6,s7,J,rfl⟩:=(i5 (a:=e) (lo:=0) (hi:=16777215) om om s6.topX).on s6
 have hm0:=hm0.tr (m.tr (m1.tr (m2.tr (m3.tr (m4.tr (m5.tr m6))))))
 have hg:=hg.mono (m.tr (m1.tr (m2.tr (m3.tr (m4.tr (m5.tr m6))))))
 refine sf (some 58) (J _ _) (oR kr) (sg [16,17,18] (sr (some 62) (n) (oE kr) (am (off:=9) (s7.at 0 rfl) rfl) (sr (some 63) (dC (some (vf (g)))) (oE kr) (fw (l:=d.length) (hg.lenA)) (sg [21,22] (sr (some 66) (n) (oE kr) (am (off:=3) (s7.at 0 rfl) rfl) (ss (some 67) (au (lA (d.length) (N) om)) (sg [25,26] (sx (nx (rt ?_))))))))))
 exact⟨.inr rfl,_,kr,W,_,s7,hm0,rfl⟩
theorem nJ{X:Heap}{n:Nat}{ip ik u:Nat}(h1:ip≤2147483647)(h2:1≤ik)(h3:ik≤2147483647)(h4:u≤2147483647)(ht:ap X n):af 182 [.u (.agg [iN ip,iN ik,.int .i64 0,.int .i64 0,.int .i64 0,.int .i64 0,.int .i64 0,.bool true,iN u,.sl0])] X n fun v _=>v=vf (.bool true):=by
 refine af.of_to kr ?_
 have s0:aa X X n (cat [[]]):=aa.ini ht
 have hm0:ab X X:=ab.rfl
 refine ag ?_
 obtain⟨_,s,J⟩:=ay s0 (.cells [iN ip,iN ik,.int .i64 0,.int .i64 0,.int .i64 0,.int .i64 0,.int .i64 0,.bool true,iN u,.sl0] true)
 refine ov 1 (J _ _ (vf (.ptr (n) (0)))) (ae 1 (aP 2 (ov 5 (ld 0 (s.at 0 rfl) rfl) ?_)))
 obtain⟨_,_,_,_,m,s,J,rfl⟩:=(i5 (a:=ip) (lo:=0) (hi:=2147483647) om om s.topX).on s
 refine ov 6 (J _ _) (go 4 (ov 11 (ld 1 (s.at 0 rfl) rfl) ?_))
 obtain⟨_,_,_,_,m1,s,J,rfl⟩:=(i5 (a:=ik) (lo:=1) (hi:=2147483647) om om s.topX).on s
 refine ov 12 (J _ _) (go 4 (ov 17 (ld 8 (s.at 0 rfl) rfl) ?_))
 obtain⟨_,W,_,_,m2,s,J,rfl⟩:=(i5 (a:=u) (lo:=0) (hi:=2147483647) om om s.topX).on s
 have hm0:=hm0.tr (m.tr (m1.tr m2))
 refine ov 18 (J _ _) (ae 2 (ar (nx (aP 1 (ov 22 (ld 7 (s.at 0 rfl) rfl) (aj (iT (ai 1 (ov 24 (la 2 3 [.int .i64 0,.int .i64 0,.int .i64 0] (s.at 0 rfl)) (go 1 (ov 26 (jo (e:=true) (z:=true) (ks:=[true,true,true]) (xs:=[.int .i64 0,.int .i64 0,.int .i64 0]) (ys:=[.int .i64 0,.int .i64 0,.int .i64 0]) (by simp[cm])) (go 2 (ov 29 (ld 5 (s.at 0 rfl) rfl) (ov 30 (eT 0 0) (go 3 (ov 34 (ld 6 (s.at 0 rfl) rfl) (ov 35 (eT 0 0) (go 3 (ov 39 (ld 9 (s.at 0 rfl) rfl) (ov 40 (ln 0) (ov 41 (eT 0 0) (ax 2 ?_))))))))))))))))))))))
 exact⟨.inr rfl,_,kr,W,_,s,hm0,rfl⟩
theorem Dh{X:Heap}{n:Nat}{t:Nat}(ht4:t<100000)(ht:ap X n):bF 225 [vf (.sl0),vi t] X n fun v _ M'=>∃a,v=vf a∧av 1 a [] M':=by
 refine bF.of_to kr ?_
 have s0:aa X X n (cat [[]]):=aa.ini ht
 have hm0:ab X X:=ab.rfl
 refine ah 1 (aP 1 (ov 6 (lF t 0) (aj ?_)))
 by_cases h0:0<t
 ·refine ar (nx (aP 2 (ov 10 (tJ (z:=.int .i64 0)) (go 1 (ov 12 (ln 0) (ov 13 (sN 0 0) (ov 14 (sN t 0) (ae 1 (ai 1 (ov 16 (gT ((t)-0) 0) (aj (iT (rg (go 2 (ov 19 (tJ (z:=.int .i64 0)) (ov 20 (r7 (sz:=1) (lo:=none) (hi:=some 0) rfl rfl) (go 1 ?_)))))))))))))))))
  obtain⟨_,s,J⟩:=He (m:=t-0) s0 ⟨1,1,[.int .u8 0]⟩ om (by simp only;omega)
  refine ov 22 (J _ _) (go 1 (ov 24 (ln 0) (ov 25 (c7 (id:=n) (off:=0) (sz:=1) (len:=t-0) (L:=t-0) (l:=0) (h:=0) (cap:=none) (lo:=none) (hi:=some 0) (by rw[(s.own (n,.cells (ci [.int .u8 0] (t-0)) false) (by simp[cat])).1];simp[gj,iu]) rfl rfl om om (fun c h=>nomatch h) om) (ae 1 (ah 2 (rt ?_))))))
  exact⟨.inr rfl,_,kr,X,_,s,hm0,_,rfl,.inr ⟨n,0,_,false,rfl,rfl,om,rfl⟩⟩
 ·refine ar (nx (aP 2 (ov 10 (tJ (z:=.int .i64 0)) (go 1 (ov 12 (ln 0) (ov 13 (sN 0 0) (ov 14 (sN t 0) (ae 1 (ai 1 (ov 16 (gF ((t)-0) 0) (aj (ar (nx (ah 2 (rt ?_)))))))))))))))
  exact⟨.inr rfl,_,kr,X,_,s0,hm0,_,rfl,av.nil 1⟩
theorem qO{X:Heap}{n:Nat}{f:F}(ls:List (List Nat))(hr:bJ X f ls)(hlt:ls.flatten.length<100000)(hn:ls.length<100000)(hb:B8 ls.flatten)(ht:ap X n):af 187 [vf (f)] X n fun v X'=>∃g,v=vf g∧aB X' g ls.flatten:=by
 refine af.of_to kr ?_
 have s0:aa X X n (cat [[]]):=aa.ini ht
 have hm0:ab X X:=ab.rfl
 refine ah 1 (ah 1 (aP 1 (ov 10 (lv ls.length hr.lenA) (ae 1 (bk 0 (lp (aC.for (ls.length) (fun i A Hq nq=>∃(Y:Heap) (t:Nat),aL A [(0,vf (f)),(3,vi t),(9,vf (f)),(10,vi ls.length),(11,vi i)]∧aa Y Hq nq (cat [[]])∧(ab X Y)∧(bJ Y f ls)∧(t=(ls.take i).flatten.length)) ⟨X,0,az (ts:=[0,3,9,10,11]) kr,s0,(hm0),(hr),(rfl)⟩ (fun i A H n1 hi hI=>?_) (fun A H n1 hI=>?_))))))))
 ·obtain⟨Y,t,hT,s,hm0,hr,ht⟩:=hI
  refine To.keep _ ?_ hT.sub
  obtain⟨id,off,cap,gs,rfl,hG,hat⟩:=hr.sl om
  obtain⟨g,hg0,hg⟩:=hG.nth hi
  have hfl:=t7 hi
  refine ag (ov 12 (lT i ls.length) (aQ (aM (nx (aD 1 (ag (ov 13 (ix id off 1 ls.length i) (ov 14 (lx id (off+i*1) g (by rw[Nat.mul_one];exact(hat i g hg0).mono (s.mono _))) (ae 1 (ai 2 (ov 17 (lv (ls[i].length) hg.lenA) (ov 18 (aN t (ls[i].length)) (ae 1 (ai 1 (ov 20 (lF (t+ls[i].length) 0) (aj (ar (nx (rg (ov 22 (aN i 1) (aR 1 ?_)))))))))))))))))))))
  exact .inl ⟨rfl,Y,t+ls[i].length,az (ts:=[0,3,9,10,11]) kr,s,(hm0),(hr),(by rw[ht,hfl.1])⟩
 ·obtain⟨Y,t,hT,s,hm0,hr,ht⟩:=hI
  refine To.keep _ ?_ hT.sub
  refine ag (ov 12 (lF ls.length ls.length) (aj ?_))
  have ht2:t=ls.flatten.length:=by rw[ht,List.take_length]
  refine sq (iF (xt 0 ?_))
  refine⟨sm,?_⟩
  show To Tryz.prog 187 [1,1,1] _ _ _ _
  refine ai 1 ?_
  obtain⟨_,W,_,_,Pw,m,s,J,⟨a,rfl,ho⟩⟩:=(Dh (t:=t) om s.topX).on s
  have hm0:=hm0.tr m
  have hr:=hr.mono m
  refine ov 24 (J _ _) (ae 1 (aP 1 (ov 26 (lv ls.length hr.lenA) (ae 1 (bk 2 (lp (aC.for (ls.length) (fun j A Hq nq=>∃(Y:Heap) (a2:F) (P2:List (Nat×O)),aL A [(6,vf (a2)),(25,vf (f)),(26,vi ls.length),(27,vi j)]∧aa Y Hq nq (cat [[],P2])∧(ab X Y)∧(bJ Y f ls)∧(av 1 a2 (bs (ls.take j).flatten) P2)) ⟨W,a,Pw,az (ts:=[6,25,26,27]) kr,s,(hm0),(hr),(ho)⟩ (fun j A H n2 hi hI=>?_) (fun A H n2 hI=>?_))))))))
  ·obtain⟨Y,a2,P2,hT,s,hm0,hr,ho⟩:=hI
   refine To.keep _ ?_ hT.sub
   obtain⟨id,off,cap,gs,rfl,hG,hat⟩:=hr.sl om
   obtain⟨g,hg0,hg⟩:=hG.nth hi
   have hfl:=t7 hi
   refine ag (ov 28 (lT j ls.length) (aQ (aM (nx (aD 3 (ag (ov 29 (ix id off 1 ls.length j) (ov 30 (lx id (off+j*1) g (by rw[Nat.mul_one];exact(hat j g hg0).mono (s.mono _))) (ae 1 (rg (go 2 ?_)))))))))))
   obtain⟨_,_,_,_,ho102,s,J⟩:=b6 (sz:=1) (bytes:=1) (x:=g) (new:=bs ls[j]) [_] [] s (ho) (aO s.mono hg.1) (hg.lenA) om (by rw[bg];omega)
   refine ov 33 (J _ _) (ae 1 (rg (ov 34 (aN j 1) (aR 1 ?_))))
   exact .inl ⟨rfl,Y,_,_,az (ts:=[6,25,26,27]) kr,s,(hm0),(hr),(by rw[e_ hi,List.flatten_append,jb];simpa using ho102)⟩
  ·obtain⟨Y,a2,P2,hT,s,hm0,hr,ho⟩:=hI
   refine To.keep _ ?_ hT.sub
   refine ag (ov 28 (lF ls.length ls.length) (aQ (iF (xt 2 ?_))))
   refine⟨sm,?_⟩
   show To Tryz.prog 187 [1,1,1,1,1] _ _ _ _
   refine ah 2 (rt ?_)
   rw[List.take_length]at ho
   obtain⟨X9,m9,s9,hrow⟩:=av.frz ho [_] [] s
   exact⟨.inr rfl,vf a2,kr,X9,_,s9,hm0.tr m9,a2,rfl,hrow,hb,om⟩
theorem d7{P:Program}{H:Heap}{n:Nat}{o:Oper}{r:Operand→Option V}{id off len l h:Nat}{lo hi:Option Nat}{row:List Nat}(hr:aB H (.sl id off 1 len none) row)(hl:lo.getD 0=l)(hh:hi.getD len=h)(hlh:l≤h)(hhl:h≤len)
 (hk:ko P o r=some (.sl id off 1 len none,1,lo,hi):=by kernel_rfl):aE P o r H n (vf (.sl id (off+l*1) 1 (h-l) none)) H n:=by
 obtain⟨B,h1,h2⟩:=rj hr.1
 exact c7 (cap:=none) h1 hl hh hlh om (fun c h=>nomatch h) om hk
theorem fK{X:Heap}{n v w:Nat}{f:F}(hr:aB X f (bq w v))(hv:v<256 ^ w)(hw:w≤4)(ht:ap X n):af 181 [vf f] X n fun r X'=>r=vi v:=
 (BW _ hr (by rw[de];exact hw) ht).imp fun r X' h=>h.trans (by rw[u7 _ _ hv])
/-- what the first bytes of a record are -/
def dQ(k ip ik u:Nat):List Nat:=k::(bq 4 ip++(bq 4 ik++bq 4 u))
def fy(ip ik u B N M b e:Nat)(d:List Nat):List Nat:=dQ 0 ip ik u++(bq 2 B++(bq 2 N++(bq 2 M++(bq 2 b++(bq 3 e++d)))))
theorem mC(k ip ik u:Nat):(dQ k ip ik u).length=13:=by simp[dQ,de]
theorem rJ(ip ik u B N M b e:Nat)(d:List Nat):(fy ip ik u B N M b e d).length=24+d.length:=by
 simp only[fy,List.length_append,mC,de];omega
theorem B8.app{a b:List Nat}(h:B8 a)(k:B8 b):B8 (a++b):=fun x hx=>by
 rcases List.mem_append.1 hx with h1 | h1
 ·exact h x h1
 ·exact k x h1
theorem oJ{k:Nat}(hk:k<256)(ip ik u:Nat):B8 (dQ k ip ik u):=fun x hx=>by
 rcases List.mem_cons.1 hx with rfl | hx
 ·exact hk
 ·exact((ga _ _).app ((ga _ _).app (ga _ _))) x hx
theorem xy(ip ik u B N M b e:Nat){d:List Nat}(h:B8 d):B8 (fy ip ik u B N M b e d):=(oJ om _ _ _).app ((ga _ _).app ((ga _ _).app ((ga _ _).app ((ga _ _).app ((ga _ _).app h)))))
theorem uq{X:Heap}{n:Nat}{ip ik u B N M b e:Nat}{g:F}{d:List Nat}(h:np ip ik u B N M b e)(hg:aB X g d)(hd:d.length=N)(ht:ap X n):af 135 [.u (.agg [iN ip,iN ik,iN B,iN N,iN M,iN b,iN e,.bool false,iN u,g])] X n fun v X'=>∃g,v=vf g∧aB X' g (fy ip ik u B N M b e d):=by
 refine af.of_to kr ?_
 have s0:aa X X n (cat [[]]):=aa.ini ht
 have hm0:ab X X:=ab.rfl
 have hsy:=h
 refine ag ?_
 obtain⟨_,s,J⟩:=ay s0 (.cells [iN ip,iN ik,iN B,iN N,iN M,iN b,iN e,.bool false,iN u,g] true)
 refine ov 1 (J _ _ (vf (.ptr (n) (0)))) (ae 1 (sq (ag (ov 6 (la 0 10 [iN ip,iN ik,iN B,iN N,iN M,iN b,iN e,.bool false,iN u,g] (s.at 0 rfl)) ?_))))
 obtain⟨_,_,_,_,m,s1,J,rfl⟩:=(qL h hg hd s.topX).on s
 refine ov 7 (J _ _) ?_
 obtain⟨o1,o2,o3,o4,o5,o6,o7⟩:=hsy
 obtain⟨q1,q2,q3,q4,q5,q6⟩:=o5
 refine ae 1 (ar (nx (ah 1 (aP 1 (ov 10 (ld 7 (s1.at 0 rfl) rfl) (aj (ar (nx (sq (dw [2,3,4,5,6,7,8,9,10,11,12,0,1,13,14,15] (sg [2,3] (sr (some 15) (n) trivial (am (off:=0) (s1.at 0 rfl) rfl) ?_))))))))))))
 obtain⟨_,_,_,_,m1,s2,J,⟨g1,rfl,w1⟩⟩:=(eG (v:=ip) (w:=4) om om s1.topX).on s1
 refine sf (some 16) (J _ _) (oR kr) (sg [6,7] (sr (some 19) (n) ⟨ke (s1.at 0 rfl) (s2.at 0 rfl),trivial⟩ (am (off:=1) (s2.at 0 rfl) rfl) ?_))
 obtain⟨_,_,_,_,m2,s3,J,⟨g2,rfl,w2⟩⟩:=(eG (v:=ik) (w:=4) om om s2.topX).on s2
 refine sf (some 20) (J _ _) (oR kr) (sg [10] (sr (some 22) (n) ⟨ke (s2.at 0 rfl) (s3.at 0 rfl),ke (s1.at 0 rfl) (s2.at 0 rfl),trivial⟩ (am (off:=8) (s3.at 0 rfl) rfl) ?_))
 obtain⟨_,_,_,n1,m3,s4,J,⟨g3,rfl,w3⟩⟩:=(eG (v:=u) (w:=4) om om s3.topX).on s3
 refine sf (some 23) (J _ _) (oR kr) (sg [0] ?_)
 obtain⟨W,_,s5,m4,f,J⟩:=bj s4 (.cells [.int .u8 0] true)
 refine sf (some 12) (J _ _ (vf (.sl (n1) (0) 1 (1) none))) ⟨ke (s4.at 0 rfl) (s5.at 0 rfl),ke (s4.at 0 rfl) (s5.at 0 rfl),ke (s4.at 0 rfl) (s5.at 0 rfl),trivial⟩ ?_
 have w0:aB W (.sl (n1) (0) 1 (1) none) [0]:=⟨bf f rfl,fun x hx=>by simp at hx;omega,by decide⟩
 obtain⟨_,_,s6,m5,f1,J⟩:=bj s5 (.cells [.sl (n1) (0) 1 (1) none,g1,g2,g3] true)
 have f2:=m5 _ _ f
 have w1:=w1.mono (m2.tr (m3.tr (m4.tr m5)))
 have w2:=w2.mono (m3.tr (m4.tr m5))
 have w3:=w3.mono (m4.tr m5)
 have w0:=w0.mono m5
 refine sf (some 24) (J _ _ (vf (.sl (n1+1) (0) 1 (4) none))) (oR kr) ?_
 obtain⟨_,W,_,n2,m6,s7,J,⟨g4,rfl,w4⟩⟩:=(qO [[0],bq 4 ip,bq 4 ik,bq 4 u] ⟨_,bf (len:=4) (cap:=none) f1 rfl,⟨w0,w1,w2,w3,trivial⟩⟩ (by simp[de]) sm (by simpa[dQ]using oJ (k:=0) om ip ik u) s6.topX).on s6
 have f3:=m6 _ _ f2
 have f4:=m6 _ _ f1
 refine sf (some 25) (J _ _) (oR kr) ?_
 have w4:aB W g4 (dQ 0 ip ik u):=by simpa[dQ]using w4
 have hk60:=(iB h.sh).2
 refine sg [15] (sx (nx (aP 1 (ov 27 (ld 7 (s7.at 0 rfl) rfl) (aj (ar (nx (ai 1 (ov 30 (la 2 3 [iN B,iN N,iN M] (s7.at 0 rfl)) ?_)))))))))
 obtain⟨_,s8,J⟩:=ay s7 (.cells [.int .i64 0,.int .i64 0,.int .i64 0] true)
 refine ov 5 (J _ _ (vf (.ptr (n2) (0)))) ?_
 obtain⟨_,s9,J⟩:=aI (off:=0) (new:=[iN B,iN N,iN M]) (cs':=[iN B,iN N,iN M]) s8 0 rfl sm rfl
 refine oe (J _ _) (aQ (dw [1,2,3,4,5,6,7,8,9,10,11,12,13,14,15,0,16,17,18,19,20] (sg [1] (sr (some 33) (n2) trivial (am (off:=0) (s9.at 0 rfl) rfl) ?_))))
 obtain⟨_,_,_,_,m7,s10,J,⟨g5,rfl,w5⟩⟩:=(eG (v:=B) (w:=2) om om s9.topX).on s9
 have f5:=m7 _ _ f3
 have f6:=m7 _ _ f4
 refine sf (some 34) (J _ _) (oR kr) (sg [4] (sr (some 36) (n2) ⟨ke (s9.at 0 rfl) (s10.at 0 rfl),trivial⟩ (am (off:=1) (s10.at 0 rfl) rfl) ?_))
 obtain⟨_,_,_,_,m8,s11,J,⟨g6,rfl,w6⟩⟩:=(eG (v:=N) (w:=2) om om s10.topX).on s10
 have f7:=m8 _ _ f5
 have f8:=m8 _ _ f6
 refine sf (some 37) (J _ _) (oR kr) (sg [7] (sr (some 39) (n2) ⟨ke (s10.at 0 rfl) (s11.at 0 rfl),ke (s9.at 0 rfl) (s10.at 0 rfl),trivial⟩ (am (off:=2) (s11.at 0 rfl) rfl) ?_))
 obtain⟨_,_,_,_,m9,s12,J,⟨g7,rfl,w7⟩⟩:=(eG (v:=M) (w:=2) om om s11.topX).on s11
 have f9:=m9 _ _ f7
 have f10:=m9 _ _ f8
 refine sf (some 40) (J _ _) (oR kr) (sg [10] (sr (some 42) (n) ⟨ke (s11.at 1 rfl) (s12.at 1 rfl),ke (s10.at 1 rfl) (s11.at 1 rfl),ke (s9.at 1 rfl) (s10.at 1 rfl),trivial⟩ (am (off:=5) (s12.at 1 rfl) rfl) ?_))
 obtain⟨_,_,_,_,m10,s13,J,⟨g8,rfl,w8⟩⟩:=(eG (v:=b) (w:=2) om om s12.topX).on s12
 have f11:=m10 _ _ f9
 have f12:=m10 _ _ f10
 refine sf (some 43) (J _ _) (oR kr) (sg [13] (sr (some 45) (n) ⟨ke (s12.at 1 rfl) (s13.at 1 rfl),ke (s11.at 1 rfl) (s12.at 1 rfl),ke (s10.at 1 rfl) (s11.at 1 rfl),ke (s9.at 1 rfl) (s10.at 1 rfl),trivial⟩ (am (off:=6) (s13.at 1 rfl) rfl) ?_))
 obtain⟨_,_,_,n3,m11,s14,J,⟨g9,rfl,w9⟩⟩:=(eG (v:=e) (w:=3) om om s13.topX).on s13
 have f13:=m11 _ _ f11
 have f14:=m11 _ _ f12
 refine sf (some 46) (J _ _) (oR kr) (sg [0,16] (sr (some 48) (n) ⟨ke (s13.at 1 rfl) (s14.at 1 rfl),ke (s12.at 1 rfl) (s13.at 1 rfl),ke (s11.at 1 rfl) (s12.at 1 rfl),ke (s10.at 1 rfl) (s11.at 1 rfl),ke (s9.at 1 rfl) (s10.at 1 rfl),trivial⟩ (am (off:=9) (s14.at 1 rfl) rfl) ?_))
 obtain⟨_,_,s15,m12,f15,J⟩:=bj s14 (.cells [g4,g5,g6,g7,g8,g9,g] true)
 have f16:=m12 _ _ f13
 have f17:=m12 _ _ f14
 have hg:=hg.mono (m.tr (m1.tr (m2.tr (m3.tr (m4.tr (m5.tr (m6.tr (m7.tr (m8.tr (m9.tr (m10.tr (m11.tr m12))))))))))))
 have w4:=w4.mono (m7.tr (m8.tr (m9.tr (m10.tr (m11.tr m12)))))
 have w5:=w5.mono (m8.tr (m9.tr (m10.tr (m11.tr m12))))
 have w6:=w6.mono (m9.tr (m10.tr (m11.tr m12)))
 have w7:=w7.mono (m10.tr (m11.tr m12))
 have w8:=w8.mono (m11.tr m12)
 have w9:=w9.mono m12
 refine sf (some 49) (J _ _ (vf (.sl (n3) (0) 1 (7) none))) (oR kr) ?_
 obtain⟨_,W,_,_,m13,s16,J,⟨g10,rfl,h1⟩⟩:=(qO [dQ 0 ip ik u,bq 2 B,bq 2 N,bq 2 M,bq 2 b,bq 3 e,d] ⟨_,bf (len:=7) (cap:=none) f15 rfl,⟨w4,w5,w6,w7,w8,w9,hg,trivial⟩⟩ (by simp[de,mC];omega) sm (by simpa[fy]using xy ip ik u B N M b e hg.2.1) s15.topX).on s15
 have hm0:=hm0.tr (m.tr (m1.tr (m2.tr (m3.tr (m4.tr (m5.tr (m6.tr (m7.tr (m8.tr (m9.tr (m10.tr (m11.tr (m12.tr m13)))))))))))))
 refine sf (some 50) (J _ _) (oR kr) (sg [20] (sx (nx (rt ?_))))
 exact⟨.inr rfl,_,kr,W,_,s16,hm0,_,rfl,by simpa[fy]using h1⟩
theorem uu{X:Heap}{n:Nat}{ip ik u:Nat}(h1:ip≤2147483647)(h2:1≤ik)(h3:ik≤2147483647)(h4:u≤2147483647)(ht:ap X n):af 135 [.u (.agg [iN ip,iN ik,.int .i64 0,.int .i64 0,.int .i64 0,.int .i64 0,.int .i64 0,.bool true,iN u,.sl0])] X n fun v X'=>∃g,v=vf g∧aB X' g (dQ 1 ip ik u):=by
 refine af.of_to kr ?_
 have s0:aa X X n (cat [[]]):=aa.ini ht
 have hm0:ab X X:=ab.rfl
 refine ag ?_
 obtain⟨_,s,J⟩:=ay s0 (.cells [iN ip,iN ik,.int .i64 0,.int .i64 0,.int .i64 0,.int .i64 0,.int .i64 0,.bool true,iN u,.sl0] true)
 refine ov 1 (J _ _ (vf (.ptr (n) (0)))) (ae 1 (sq (ag (ov 6 (la 0 10 [iN ip,iN ik,.int .i64 0,.int .i64 0,.int .i64 0,.int .i64 0,.int .i64 0,.bool true,iN u,.sl0] (s.at 0 rfl)) ?_))))
 obtain⟨_,_,_,_,m,s1,J,rfl⟩:=(nJ h1 h2 h3 h4 s.topX).on s
 refine ov 7 (J _ _) (ae 1 (ar (nx (ah 1 (aP 1 (ov 10 (ld 7 (s1.at 0 rfl) rfl) (aj (iT (rg (ae 1 (sq (dw [2,3,4,5,6,7,8,9,10,11,12,0,1,13,14,15] (sg [2,3] (sr (some 15) (n) trivial (am (off:=0) (s1.at 0 rfl) rfl) ?_))))))))))))))
 obtain⟨_,_,_,_,m1,s2,J,⟨g1,rfl,w1⟩⟩:=(eG (v:=ip) (w:=4) om om s1.topX).on s1
 refine sf (some 16) (J _ _) (oR kr) (sg [6,7] (sr (some 19) (n) ⟨ke (s1.at 0 rfl) (s2.at 0 rfl),trivial⟩ (am (off:=1) (s2.at 0 rfl) rfl) ?_))
 obtain⟨_,_,_,_,m2,s3,J,⟨g2,rfl,w2⟩⟩:=(eG (v:=ik) (w:=4) om om s2.topX).on s2
 refine sf (some 20) (J _ _) (oR kr) (sg [10] (sr (some 22) (n) ⟨ke (s2.at 0 rfl) (s3.at 0 rfl),ke (s1.at 0 rfl) (s2.at 0 rfl),trivial⟩ (am (off:=8) (s3.at 0 rfl) rfl) ?_))
 obtain⟨_,_,_,n1,m3,s4,J,⟨g3,rfl,w3⟩⟩:=(eG (v:=u) (w:=4) om om s3.topX).on s3
 refine sf (some 23) (J _ _) (oR kr) (sg [0] ?_)
 obtain⟨W,_,s5,m4,f,J⟩:=bj s4 (.cells [.int .u8 1] true)
 refine sf (some 12) (J _ _ (vf (.sl (n1) (0) 1 (1) none))) ⟨ke (s4.at 0 rfl) (s5.at 0 rfl),ke (s4.at 0 rfl) (s5.at 0 rfl),ke (s4.at 0 rfl) (s5.at 0 rfl),trivial⟩ ?_
 have w0:aB W (.sl (n1) (0) 1 (1) none) [1]:=⟨bf f rfl,fun x hx=>by simp at hx;omega,by decide⟩
 obtain⟨_,_,s6,m5,f1,J⟩:=bj s5 (.cells [.sl (n1) (0) 1 (1) none,g1,g2,g3] true)
 have f2:=m5 _ _ f
 have w1:=w1.mono (m2.tr (m3.tr (m4.tr m5)))
 have w2:=w2.mono (m3.tr (m4.tr m5))
 have w3:=w3.mono (m4.tr m5)
 have w0:=w0.mono m5
 refine sf (some 24) (J _ _ (vf (.sl (n1+1) (0) 1 (4) none))) (oR kr) ?_
 obtain⟨_,W,_,_,m6,s7,J,⟨g4,rfl,w4⟩⟩:=(qO [[1],bq 4 ip,bq 4 ik,bq 4 u] ⟨_,bf (len:=4) (cap:=none) f1 rfl,⟨w0,w1,w2,w3,trivial⟩⟩ (by simp[de]) sm (by simpa[dQ]using oJ (k:=1) om ip ik u) s6.topX).on s6
 have hm0:=hm0.tr (m.tr (m1.tr (m2.tr (m3.tr (m4.tr (m5.tr m6))))))
 refine sf (some 25) (J _ _) (oR kr) ?_
 have w4:aB W g4 (dQ 1 ip ik u):=by simpa[dQ]using w4
 refine sg [15] (sx (nx (aP 1 (ov 27 (ld 7 (s7.at 0 rfl) rfl) (aj (iT (ah 2 (rt ?_))))))))
 exact⟨.inr rfl,_,kr,W,_,s7,hm0,_,rfl,w4⟩
end Go.Proofs.YtkimkgbppegkhaaGreat.Cm
