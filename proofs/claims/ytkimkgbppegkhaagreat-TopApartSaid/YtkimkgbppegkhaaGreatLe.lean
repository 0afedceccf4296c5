/- The clean machine's walks of records (3): read from bytes. · The clean machine's walks of letters (1): records of either kind; what may be a letter. -/
import Derived.Test.YtkimkgbppegkhaaGreatRb
set_option linter.unusedVariables false
set_option linter.unusedSimpArgs false
namespace Go.Proofs.YtkimkgbppegkhaaGreat.Cm
open Go Go.RowKit Go.Proofs.YtkimkgbppegkhaaGreat.Gf
set_option maxRecDepth 1000000
theorem uQ{X:Heap}{n:Nat}{f g:F}{l:List Nat}(hf:aB X f l)(hg:aB X g l)(hlt:l.length<100000)(ht:ap X n):af 183 [vf (f),vf (g)] X n fun v _=>v=vf (.bool true):=by
 refine af.of_to kr ?_
 have s0:aa X X n (cat [[]]):=aa.ini ht
 have hm0:ab X X:=ab.rfl
 refine ah 1 (aP 1 (ov 7 (lv l.length hf.lenA) (go 1 (ov 9 (lv l.length hg.lenA) (ov 10 (uF l.length l.length) (aj (ar (nx (aP 1 (ov 12 (lv l.length hf.lenA) (ae 1 (bk 0 (lp (aC.for (l.length) (fun i A Hq nq=>∃(Y:Heap),aL A [(0,vf (f)),(1,vf (g)),(12,vi l.length),(13,vi i)]∧aa Y Hq nq (cat [[]])∧(ab X Y)∧(aB Y f l)∧(aB Y g l)) ⟨X,az (ts:=[0,1,12,13]) kr,s0,(hm0),(hf),(hg)⟩ (fun i A H1 n2 hi hI=>?_) (fun A H1 n2 hI=>?_)))))))))))))))
 ·obtain⟨Y,hT,s3,hm0,hf,hg⟩:=hI
  refine To.keep _ ?_ hT.sub
  obtain⟨id,off,cap,rfl,hat⟩:=hf.sl om
  obtain⟨id2,off2,cap2,rfl,hat2⟩:=hg.sl om
  obtain⟨o1,ho1⟩:∃o,Y id=some o:=(dG hf.1).2.2.1
  obtain⟨o2,ho2⟩:∃o,Y id2=some o:=(dG hg.1).2.2.1
  refine ag (ov 14 (lT i l.length) (aQ (aM (nx (aD 1 (ah 2 (sq (dw [0,1,2,3,4,5,6,7,8] (sg [0,1] (ss (some 18) (bD (id:=id) (off:=off) (sz:=1) (len:=l.length) (k:=i) om) (sr (some 19) (id) trivial (eq (id:=id) (off:=off+i*1) (x:=.int .u8 ((l[i]:Nat):Int)) (by rw[Nat.mul_one];exact(hat i _ (List.getElem?_eq_getElem hi)).mono (s3.mono _))) ?_)))))))))))
  refine sg [4,5] (ss (some 22) (bD (id:=id2) (off:=off2) (sz:=1) (len:=l.length) (k:=i) om) (sr (some 23) (id2) trivial (eq (id:=id2) (off:=off2+i*1) (x:=.int .u8 ((l[i]:Nat):Int)) (by rw[Nat.mul_one];exact(hat2 i _ (List.getElem?_eq_getElem hi)).mono (s3.mono _))) ?_))
  refine ss (some 24) (au (gg .u8 (x:=((l[i]:Nat):Int)) (y:=((l[i]:Nat):Int)) om)) (sx (nx (ar (nx (rg (ov 25 (aN i 1) (aR 1 ?_)))))))
  exact .inl ⟨rfl,Y,az (ts:=[0,1,12,13]) kr,s3,(hm0),(hf),(hg)⟩
 ·obtain⟨Y,hT,s4,hm0,hf,hg⟩:=hI
  refine To.keep _ ?_ hT.sub
  refine ag (ov 14 (lF l.length l.length) (aQ (iF (xt 0 ?_))))
  refine⟨sm,?_⟩
  show To Tryz.prog 183 [1,1,1] _ _ _ _
  refine ah 1 (rt ?_)
  exact⟨.inr rfl,_,kr,Y,_,s4,hm0,rfl⟩
theorem nO{X:Heap}{n:Nat}{f:F}{l:List Nat}(hr:aB X f l)(h0:0<l.length)(hlt:l.length<100000)(ht:ap X n):af 151 [vf (f)] X n fun v X'=>∃g,v=vf g∧aB X' g l:=by
 refine af.of_to kr ?_
 have s0:aa X X n (cat [[]]):=aa.ini ht
 have hm0:ab X X:=ab.rfl
 obtain⟨id,off,cap,rfl,hat⟩:=hr.sl h0
 refine ah 1 (sq (ah 2 (ar (nx (ag ?_)))))
 obtain⟨X5,H6,s7,m8,f9,J⟩:=bj s0 (.cells [] true)
 have hm0:=hm0.tr m8
 have hr:=hr.mono m8
 refine ov 5 (J _ _ (vf (.sl (n) (0) 1 (0) none))) (go 1 ?_)
 obtain⟨_,s,J⟩:=pY (sz:=1) (bytes:=1) (m:=l.length) (x:=.sl (id) (off) 1 (l.length) cap) (new:=bs l) s7 (s7.mono _ _ f9) (aO s7.mono hr.1) (rfl) om om om
 refine ov 7 (J _ _) (ax 1 ?_)
 obtain⟨g1,g2⟩:=aa.frz (M:=[]) s
 exact⟨.inr rfl,vf (.sl (n+1) 0 1 l.length none),kr,_,_,g1,hm0.tr g2,_,rfl,bf (bG _ _ _) (by simp[bg]),hr.2.1,om⟩
theorem B6{X:Heap}{n:Nat}{ip ik u id off len:Nat}(h1:ip≤2147483647)(h2:1≤ik)(h3:ik≤2147483647)(h4:u≤2147483647)(hr:aB X (.sl id off 1 len none) (dQ 1 ip ik u))(hlen:len=13)(hat:∀(i x:Nat),(dQ 1 ip ik u)[i]?=some x→cn X id (off+i) (.int .u8 (x:Int)))(ht:ap X n):af 130 [vf (.sl (id) (off) 1 (len) none)] X n fun v _=>v=.tup [.agg [iN ip,iN ik,.int .i64 0,.int .i64 0,.int .i64 0,.int .i64 0,.int .i64 0,.bool true,iN u,.sl0],.f (.int .i64 0)]:=by
 refine af.of_to kr ?_
 have s0:aa X X n (cat [[]]):=aa.ini ht
 have hm0:ab X X:=ab.rfl
 obtain⟨ob,hob⟩:∃o,X id=some o:=(dG hr.1).2.2.1
 have hl0:=hlen
 have hel:=mC 1 ip ik u
 refine ag ?_
 obtain⟨_,s,J⟩:=ay s0 (.cells [.int .i64 0,.int .i64 0,.int .i64 0,.int .i64 0,.int .i64 0,.int .i64 0,.int .i64 0,.bool false,.int .i64 0,.sl0] true)
 refine ov 2 (J _ _ (vf (.ptr (n) (0)))) (ae 1 (aP 1 (ov 7 (ln len) (ov 8 (lF len 13) (aj (ar (nx (sq (dw [4,5,6,7,8,9,11,12,13,0,1,2,3,10,14,15,16] (sg [4] (sr (some 15) (id) trivial (d7 (lo:=some 1) (hi:=some 5) (l:=1) (h:=5) (hr.mono s.mono) rfl rfl om om kr) ?_)))))))))))
 obtain⟨_,_,_,_,m,s1,J,rfl⟩:=(fK (v:=ip) (w:=4) (f:=.sl id (off+1*1) 1 (5-1) none) (hr.cut (l:=1) (h:=5) (cap':=none) om om) om om s.topX).on s
 have f1:=m _ _ hob
 have hr:=hr.mono m
 refine sf (some 16) (J _ _) (oR kr) (sg [7] (sr (some 18) (id) ⟨ke (s.mono _ _ hob) (s1.mono _ _ f1),trivial⟩ (d7 (lo:=some 5) (hi:=some 9) (l:=5) (h:=9) (hr.mono s1.mono) rfl rfl om om kr) ?_))
 obtain⟨_,_,_,_,m1,s2,J,rfl⟩:=(fK (v:=ik) (w:=4) (f:=.sl id (off+5*1) 1 (9-5) none) (hr.cut (l:=5) (h:=9) (cap':=none) om om) om om s1.topX).on s1
 have f2:=m1 _ _ f1
 have hr:=hr.mono m1
 refine sf (some 19) (J _ _) (oR kr) (sg [11] (sr (some 22) (id) ⟨ke (s1.mono _ _ f1) (s2.mono _ _ f2),ke (s.mono _ _ hob) (s1.mono _ _ f1),trivial⟩ (d7 (lo:=some 9) (hi:=some 13) (l:=9) (h:=13) (hr.mono s2.mono) rfl rfl om om kr) ?_))
 obtain⟨_,_,_,n1,m2,s3,J,rfl⟩:=(fK (v:=u) (w:=4) (f:=.sl id (off+9*1) 1 (13-9) none) (hr.cut (l:=9) (h:=13) (cap':=none) om om) om om s2.topX).on s2
 have f3:=m2 _ _ f2
 have hr:=hr.mono m2
 have hat:=fun i x h=>(hat i x h).mono ((m.tr (m1.tr m2)) _)
 refine sf (some 23) (J _ _) (oR kr) (sg [0] (ss (some 11) (bD (id:=id) (off:=off) (sz:=1) (len:=len) (k:=0) om) (sr (some 12) (id) ⟨ke (s2.mono _ _ f2) (s3.mono _ _ f3),ke (s1.mono _ _ f1) (s2.mono _ _ f2),ke (s.mono _ _ hob) (s1.mono _ _ f1),trivial⟩ (eq (id:=id) (off:=off+0*1) (x:=.int .u8 1) (by rw[Nat.zero_mul];exact(hat 0 _ rfl).mono (s3.mono _))) (ss (some 13) (au (gR .u8 (x:=(1:Int)) (y:=(1:Int)) om)) (sg [10,14] ?_)))))
 obtain⟨_,s4,J⟩:=ay s3 (.cells [.int .i64 0,.int .i64 0,.int .i64 0,.int .i64 0,.int .i64 0,.int .i64 0,.int .i64 0,.bool false,.int .i64 0,.sl0] true)
 refine sf (some 4) (J _ _ (vf (.ptr (n1) (0)))) ⟨ke (s3.mono _ _ f3) (s4.mono _ _ f3),ke (s3.mono _ _ f3) (s4.mono _ _ f3),ke (s3.mono _ _ f3) (s4.mono _ _ f3),ke (s3.mono _ _ f3) (s4.mono _ _ f3),trivial⟩ ?_
 obtain⟨_,s5,J⟩:=aI (off:=0) (new:=[iN ip,iN ik,.int .i64 0,.int .i64 0,.int .i64 0,.int .i64 0,.int .i64 0,.bool true,iN u,.sl0]) (cs':=[iN ip,iN ik,.int .i64 0,.int .i64 0,.int .i64 0,.int .i64 0,.int .i64 0,.bool true,iN u,.sl0]) s4 0 rfl sm rfl
 refine sf none (J _ _) (oR kr) (sx (nx (aP 1 (ov 26 (d7 (lo:=some 13) (hi:=none) (l:=13) (h:=len) (hr.mono s5.mono) rfl rfl om om kr) (ae 1 (ai 1 (ov 28 (ld 7 (s5.at 0 rfl) rfl) (ae 6 (ar (nx (sq (ag (ov 58 (la 0 10 [iN ip,iN ik,.int .i64 0,.int .i64 0,.int .i64 0,.int .i64 0,.int .i64 0,.bool true,iN u,.sl0] (s5.at 0 rfl)) ?_)))))))))))))
 obtain⟨_,_,_,_,m3,s6,J,rfl⟩:=(nJ h1 h2 h3 h4 s5.topX).on s5
 have f4:=m3 _ _ f3
 refine ov 59 (J _ _) (go 2 (ov 62 (la 0 10 [iN ip,iN ik,.int .i64 0,.int .i64 0,.int .i64 0,.int .i64 0,.int .i64 0,.bool true,iN u,.sl0] (s6.at 0 rfl)) ?_))
 obtain⟨_,_,_,_,m4,s7,J,⟨gb,rfl,hgb⟩⟩:=(uu h1 h2 h3 h4 s6.topX).on s6
 have f5:=m4 _ _ f4
 have hr:=hr.mono (m3.tr m4)
 refine ov 63 (J _ _) (go 1 ?_)
 obtain⟨_,W,_,_,m5,s8,J,rfl⟩:=(uQ hgb hr om s7.topX).on s7
 have hm0:=hm0.tr (m.tr (m1.tr (m2.tr (m3.tr (m4.tr m5)))))
 refine ov 65 (J _ _) (ae 2 (ar (nx (ag (ov 69 (la 0 10 [iN ip,iN ik,.int .i64 0,.int .i64 0,.int .i64 0,.int .i64 0,.int .i64 0,.bool true,iN u,.sl0] (s8.at 0 rfl)) ?_)))))
 obtain⟨_,s9,J⟩:=aI (off:=0) (new:=[iN ip,iN ik,.int .i64 0,.int .i64 0,.int .i64 0,.int .i64 0,.int .i64 0,.bool true,iN u,.sl0]) (cs':=[iN ip,iN ik,.int .i64 0,.int .i64 0,.int .i64 0,.int .i64 0,.int .i64 0,.bool true,iN u,.sl0]) s8 1 rfl sm rfl
 refine oe (J _ _) (ax 1 ?_)
 exact⟨.inr rfl,_,cS (s9.at 1 rfl) kr kr,W,_,s9,hm0,rfl⟩
theorem CY{X:Heap}{n:Nat}{ip ik u B N M b e id off len:Nat}{d:List Nat}(h:np ip ik u B N M b e)(hd:d.length=N)(hr:aB X (.sl id off 1 len none) (fy ip ik u B N M b e d))(hlen:len=24+d.length)(hat:∀(i x:Nat),(fy ip ik u B N M b e d)[i]?=some x→cn X id (off+i) (.int .u8 (x:Int)))(ht:ap X n):af 130 [vf (.sl (id) (off) 1 (len) none)] X n fun v X'=>∃g,v=.tup [.agg [iN ip,iN ik,iN B,iN N,iN M,iN b,iN e,.bool false,iN u,g],.f (.int .i64 0)]∧aB X' g d:=by
 refine af.of_to kr ?_
 have s0:aa X X n (cat [[]]):=aa.ini ht
 have hm0:ab X X:=ab.rfl
 obtain⟨ob,hob⟩:∃o,X id=some o:=(dG hr.1).2.2.1
 have hl0:=hlen
 have hel:=rJ ip ik u B N M b e d
 have hsy:=h
 obtain⟨o1,o2,o3,o4,o5,o6,o7⟩:=hsy
 obtain⟨q1,q2,q3,q4,q5,q6⟩:=o5
 have hk60:=(iB h.sh).2
 refine ag ?_
 obtain⟨_,s,J⟩:=ay s0 (.cells [.int .i64 0,.int .i64 0,.int .i64 0,.int .i64 0,.int .i64 0,.int .i64 0,.int .i64 0,.bool false,.int .i64 0,.sl0] true)
 refine ov 2 (J _ _ (vf (.ptr (n) (0)))) (ae 1 (aP 1 (ov 7 (ln len) (ov 8 (lF len 13) (aj (ar (nx (sq (dw [4,5,6,7,8,9,11,12,13,0,1,2,3,10,14,15,16] (sg [4] (sr (some 15) (id) trivial (d7 (lo:=some 1) (hi:=some 5) (l:=1) (h:=5) (hr.mono s.mono) rfl rfl om om kr) ?_)))))))))))
 obtain⟨_,_,_,_,m,s1,J,rfl⟩:=(fK (v:=ip) (w:=4) (f:=.sl id (off+1*1) 1 (5-1) none) (hr.cut (l:=1) (h:=5) (cap':=none) om om) om om s.topX).on s
 have f1:=m _ _ hob
 have hr:=hr.mono m
 refine sf (some 16) (J _ _) (oR kr) (sg [7] (sr (some 18) (id) ⟨ke (s.mono _ _ hob) (s1.mono _ _ f1),trivial⟩ (d7 (lo:=some 5) (hi:=some 9) (l:=5) (h:=9) (hr.mono s1.mono) rfl rfl om om kr) ?_))
 obtain⟨_,_,_,_,m1,s2,J,rfl⟩:=(fK (v:=ik) (w:=4) (f:=.sl id (off+5*1) 1 (9-5) none) (hr.cut (l:=5) (h:=9) (cap':=none) om om) om om s1.topX).on s1
 have f2:=m1 _ _ f1
 have hr:=hr.mono m1
 refine sf (some 19) (J _ _) (oR kr) (sg [11] (sr (some 22) (id) ⟨ke (s1.mono _ _ f1) (s2.mono _ _ f2),ke (s.mono _ _ hob) (s1.mono _ _ f1),trivial⟩ (d7 (lo:=some 9) (hi:=some 13) (l:=9) (h:=13) (hr.mono s2.mono) rfl rfl om om kr) ?_))
 obtain⟨_,W,_,n1,m2,s3,J,rfl⟩:=(fK (v:=u) (w:=4) (f:=.sl id (off+9*1) 1 (13-9) none) (hr.cut (l:=9) (h:=13) (cap':=none) om om) om om s2.topX).on s2
 have f3:=m2 _ _ f2
 have hr:=hr.mono m2
 have hat:=fun i x h=>(hat i x h).mono ((m.tr (m1.tr m2)) _)
 refine sf (some 23) (J _ _) (oR kr) (sg [0] (ss (some 11) (bD (id:=id) (off:=off) (sz:=1) (len:=len) (k:=0) om) (sr (some 12) (id) ⟨ke (s2.mono _ _ f2) (s3.mono _ _ f3),ke (s1.mono _ _ f1) (s2.mono _ _ f2),ke (s.mono _ _ hob) (s1.mono _ _ f1),trivial⟩ (eq (id:=id) (off:=off+0*1) (x:=.int .u8 0) (by rw[Nat.zero_mul];exact(hat 0 _ rfl).mono (s3.mono _))) (ss (some 13) (au (jc .u8 (x:=(0:Int)) (y:=(1:Int)) om)) (sg [10,14] ?_)))))
 obtain⟨_,s4,J⟩:=ay s3 (.cells [.int .i64 0,.int .i64 0,.int .i64 0,.int .i64 0,.int .i64 0,.int .i64 0,.int .i64 0,.bool false,.int .i64 0,.sl0] true)
 refine sf (some 4) (J _ _ (vf (.ptr (n1) (0)))) ⟨ke (s3.mono _ _ f3) (s4.mono _ _ f3),ke (s3.mono _ _ f3) (s4.mono _ _ f3),ke (s3.mono _ _ f3) (s4.mono _ _ f3),ke (s3.mono _ _ f3) (s4.mono _ _ f3),trivial⟩ ?_
 obtain⟨_,s5,J⟩:=aI (off:=0) (new:=[iN ip,iN ik,.int .i64 0,.int .i64 0,.int .i64 0,.int .i64 0,.int .i64 0,.bool false,iN u,.sl0]) (cs':=[iN ip,iN ik,.int .i64 0,.int .i64 0,.int .i64 0,.int .i64 0,.int .i64 0,.bool false,iN u,.sl0]) s4 0 rfl sm rfl
 refine sf none (J _ _) (oR kr) (sx (nx (aP 1 (ov 26 (d7 (lo:=some 13) (hi:=none) (l:=13) (h:=len) (hr.mono s5.mono) rfl rfl om om kr) ?_))))
 have hx:aB W (.sl id (off+13*1) 1 (len-13) none) (((fy ip ik u B N M b e d).take len).drop 13):=hr.cut om om
 rw[List.take_of_length_le om]at hx
 refine ae 1 (ai 1 (ov 28 (ld 7 (s5.at 0 rfl) rfl) (go 3 (ov 32 (ln (len-13)) (ov 33 (hT (len-13) 11) (ae 1 (iT (sq (dw [0,1,2,3,4,5,6,7,8,9,10,11] (sg [0] (sr (some 36) (id) trivial (d7 (lo:=none) (hi:=some 2) (l:=0) (h:=2) (hx.mono s5.mono) rfl rfl om om kr) ?_)))))))))))
 obtain⟨_,_,_,_,m3,s6,J,rfl⟩:=(fK (v:=B) (w:=2) (f:=.sl id (off+13*1+0*1) 1 (2-0) none) (hx.cut (l:=0) (h:=2) (cap':=none) om om) om om s5.topX).on s5
 have f4:=m3 _ _ f3
 have hx:=hx.mono m3
 refine sf (some 37) (J _ _) (oR kr) (sg [3] (sr (some 39) (id) ⟨ke (s5.mono _ _ f3) (s6.mono _ _ f4),trivial⟩ (d7 (lo:=some 2) (hi:=some 4) (l:=2) (h:=4) (hx.mono s6.mono) rfl rfl om om kr) ?_))
 obtain⟨_,_,_,_,m4,s7,J,rfl⟩:=(fK (v:=N) (w:=2) (f:=.sl id (off+13*1+2*1) 1 (4-2) none) (hx.cut (l:=2) (h:=4) (cap':=none) om om) om om s6.topX).on s6
 have f5:=m4 _ _ f4
 have hx:=hx.mono m4
 refine sf (some 40) (J _ _) (oR kr) (sg [6] (sr (some 42) (id) ⟨ke (s6.mono _ _ f4) (s7.mono _ _ f5),ke (s5.mono _ _ f3) (s6.mono _ _ f4),trivial⟩ (d7 (lo:=some 4) (hi:=some 6) (l:=4) (h:=6) (hx.mono s7.mono) rfl rfl om om kr) ?_))
 obtain⟨_,_,_,_,m5,s8,J,rfl⟩:=(fK (v:=M) (w:=2) (f:=.sl id (off+13*1+4*1) 1 (6-4) none) (hx.cut (l:=4) (h:=6) (cap':=none) om om) om om s7.topX).on s7
 have f6:=m5 _ _ f5
 have hx:=hx.mono m5
 refine sf (some 43) (J _ _) (oR kr) (sg [9,10] ?_)
 obtain⟨_,s9,J⟩:=aI (off:=2) (new:=[iN B,iN N,iN M]) (cs':=[iN ip,iN ik,iN B,iN N,iN M,.int .i64 0,.int .i64 0,.bool false,iN u,.sl0]) s8 0 rfl sm rfl
 refine sf none (J _ _) (oR kr) (sx (nx (dw [0,1,2,3,4,5,6,7,8,9,10,11,12,13,14] (sg [0] (sr (some 47) (id) trivial (d7 (lo:=some 6) (hi:=some 8) (l:=6) (h:=8) (hx.mono s9.mono) rfl rfl om om kr) ?_)))))
 obtain⟨_,_,_,_,m6,s10,J,rfl⟩:=(fK (v:=b) (w:=2) (f:=.sl id (off+13*1+6*1) 1 (8-6) none) (hx.cut (l:=6) (h:=8) (cap':=none) om om) om om s9.topX).on s9
 have f7:=m6 _ _ f6
 have hx:=hx.mono m6
 refine sf (some 48) (J _ _) (oR kr) (sg [3] (sr (some 50) (id) ⟨ke (s9.mono _ _ f6) (s10.mono _ _ f7),trivial⟩ (d7 (lo:=some 8) (hi:=some 11) (l:=8) (h:=11) (hx.mono s10.mono) rfl rfl om om kr) ?_))
 obtain⟨_,W,_,_,m7,s11,J,rfl⟩:=(fK (v:=e) (w:=3) (f:=.sl id (off+13*1+8*1) 1 (11-8) none) (hx.cut (l:=8) (h:=11) (cap':=none) om om) om om s10.topX).on s10
 have f8:=m7 _ _ f7
 have hx:=hx.mono m7
 refine sf (some 51) (J _ _) (oR kr) (sg [6] (sr (some 53) (id) ⟨ke (s10.mono _ _ f7) (s11.mono _ _ f8),ke (s9.mono _ _ f6) (s10.mono _ _ f7),trivial⟩ (d7 (lo:=some 11) (hi:=none) (l:=11) (h:=len-13) (hx.mono s11.mono) rfl rfl om om kr) ?_))
 have hx2:aB W (.sl id (off+13*1+11*1) 1 (len-13-11) none) ((((fy ip ik u B N M b e d).drop 13).take (len-13)).drop 11):=hx.cut om om
 rw[List.take_of_length_le (by rw[List.length_drop];omega)]at hx2
 have hx2:aB W (.sl id (off+13*1+11*1) 1 (len-13-11) none) d:=hx2
 obtain⟨_,_,_,_,m8,s12,J,⟨g,rfl,hg⟩⟩:=(nO hx2 om om s11.topX).on s11
 have f9:=m8 _ _ f8
 refine sf (some 54) (J _ _) (oR kr) (sg [9] ?_)
 obtain⟨_,s13,J⟩:=aI (off:=5) (new:=[iN b]) (cs':=[iN ip,iN ik,iN B,iN N,iN M,iN b,.int .i64 0,.bool false,iN u,.sl0]) s12 0 rfl sm rfl
 refine sf none (J _ _) (oR kr) (sg [11] ?_)
 obtain⟨_,s14,J⟩:=aI (off:=6) (new:=[iN e]) (cs':=[iN ip,iN ik,iN B,iN N,iN M,iN b,iN e,.bool false,iN u,.sl0]) s13 0 rfl sm rfl
 refine sf none (J _ _) (oR kr) (sg [13] ?_)
 obtain⟨_,s15,J⟩:=aI (off:=9) (new:=[g]) (cs':=[iN ip,iN ik,iN B,iN N,iN M,iN b,iN e,.bool false,iN u,g]) s14 0 rfl sm rfl
 refine sf none (J _ _) (oR kr) (sx (nx (sq (ag (ov 58 (la 0 10 [iN ip,iN ik,iN B,iN N,iN M,iN b,iN e,.bool false,iN u,g] (s15.at 0 rfl)) ?_)))))
 obtain⟨_,_,_,_,m9,s16,J,rfl⟩:=(qL h hg hd s15.topX).on s15
 have f10:=m9 _ _ f9
 have hg:=hg.mono m9
 refine ov 59 (J _ _) (go 2 (ov 62 (la 0 10 [iN ip,iN ik,iN B,iN N,iN M,iN b,iN e,.bool false,iN u,g] (s16.at 0 rfl)) ?_))
 obtain⟨_,_,_,_,m10,s17,J,⟨gb,rfl,hgb⟩⟩:=(uq h hg hd s16.topX).on s16
 have f11:=m10 _ _ f10
 have hr:=hr.mono (m3.tr (m4.tr (m5.tr (m6.tr (m7.tr (m8.tr (m9.tr m10)))))))
 refine ov 63 (J _ _) (go 1 ?_)
 obtain⟨_,W,_,_,m11,s18,J,rfl⟩:=(uQ hgb hr om s17.topX).on s17
 have hm0:=hm0.tr (m.tr (m1.tr (m2.tr (m3.tr (m4.tr (m5.tr (m6.tr (m7.tr (m8.tr (m9.tr (m10.tr m11)))))))))))
 have hg:=hg.mono (m10.tr m11)
 refine ov 65 (J _ _) (ae 2 (ar (nx (ag (ov 69 (la 0 10 [iN ip,iN ik,iN B,iN N,iN M,iN b,iN e,.bool false,iN u,g] (s18.at 0 rfl)) ?_)))))
 obtain⟨_,s19,J⟩:=aI (off:=0) (new:=[iN ip,iN ik,iN B,iN N,iN M,iN b,iN e,.bool false,iN u,g]) (cs':=[iN ip,iN ik,iN B,iN N,iN M,iN b,iN e,.bool false,iN u,g]) s18 1 rfl sm rfl
 refine oe (J _ _) (ax 1 ?_)
 exact⟨.inr rfl,_,cS (s19.at 1 rfl) kr kr,W,_,s19,hm0,_,rfl,hg⟩
/-- a record: a symbol, or a tombstone -/
inductive Rg where
 |sy (ip ik u B N M b e:Nat) (d:List Nat)
 |tb (ip ik u:Nat)
def aV(X:Heap):Rg→List F→Prop
 |.sy ip ik u B N M b e d,c=>cA ip ik u B N M X ⟨b,e,d⟩ c
 |.tb ip ik u,c=>c=[iN ip,iN ik,.int .i64 0,.int .i64 0,.int .i64 0,.int .i64 0,.int .i64 0,.bool true,iN u,.sl0]
def dy:Rg→Prop
 |.sy ip ik u B N M b e d=>np ip ik u B N M b e∧d.length=N
 |.tb ip ik u=>ip≤2147483647∧1≤ik∧ik≤2147483647∧u≤2147483647
def cZ:Rg→List Nat
 |.sy ip ik u B N M b e d=>fy ip ik u B N M b e d
 |.tb ip ik u=>dQ 1 ip ik u
theorem aV.mono(X Y:Heap)(r:Rg)(c:List F)(hm:ab X Y)(h:aV X r c):aV Y r c:=by
 cases r with
 |sy ip ik u B N M b e d=>exact cA.mono X Y _ c hm h
 |tb ip ik u=>exact h
theorem aV.len{X:Heap}{r:Rg}{c:List F}(h:aV X r c):c.length=10:=by
 cases r with
 |sy ip ik u B N M b e d=>obtain⟨g,rfl,_⟩:=h;rfl
 |tb ip ik u=>have h:c=_:=h;subst h;rfl
abbrev ck:=ch aV 10
theorem ck.mono{X Y:Heap}{f:F}{l:List Rg}(hm:ab X Y)(h:ck X f l):ck Y f l:=ch.mono aV.mono hm h
theorem mw{r:Rg}(h:dy r):13≤(cZ r).length∧(cZ r).length≤44:=by
 cases r with
 |sy ip ik u B N M b e d=>
  have h1:=h.1.sh.n2
  have h2:=h.2
  have:=rJ ip ik u B N M b e d
  show 13≤(fy ip ik u B N M b e d).length∧(fy ip ik u B N M b e d).length≤44
  omega
 |tb ip ik u=>show 13≤(dQ 1 ip ik u).length∧(dQ 1 ip ik u).length≤44;rw[mC];omega
section
variable {X:Heap} {n:Nat} {r:Rg} {c:List F}
theorem t_(h:aV X r c)(ok:dy r)(ht:ap X n):af 182 [.u (.agg c)] X n fun v X'=>v=vf (.bool true):=by
 cases r with
 |sy ip ik u B N M b e d=>obtain⟨g,rfl,hg⟩:=h;exact qL ok.1 hg ok.2 ht
 |tb ip ik u=>have h:c=_:=h;subst h;exact nJ ok.1 ok.2.1 ok.2.2.1 ok.2.2.2 ht
theorem uk(h:aV X r c)(ok:dy r)(ht:ap X n):af 135 [.u (.agg c)] X n fun v X'=>∃g,v=vf g∧aB X' g (cZ r):=by
 cases r with
 |sy ip ik u B N M b e d=>obtain⟨g,rfl,hg⟩:=h;exact uq ok.1 hg ok.2 ht
 |tb ip ik u=>have h:c=_:=h;subst h;exact uu ok.1 ok.2.1 ok.2.2.1 ok.2.2.2 ht
theorem Bo{id off len:Nat}(ok:dy r)(hr:aB X (.sl id off 1 len none) (cZ r))(ht:ap X n):af 130 [vf (.sl id off 1 len none)] X n fun v X'=>∃c,v=.tup [.agg c,.f (.int .i64 0)]∧aV X' r c:=by
 have hlen:len=(cZ r).length:=by have:=(dG hr.1).2.1;rw[bg]at this;omega
 have hat:∀(i x:Nat),(cZ r)[i]?=some x→cn X id (off+i) (.int .u8 (x:Int)):=fun i x h=>(dG hr.1).2.2.2 i _ (gk h)
 cases r with
 |sy ip ik u B N M b e d=>exact(CY ok.1 ok.2 hr (hlen.trans (rJ ..)) hat ht).imp fun v X' h=>by obtain⟨g,h1,h2⟩:=h;exact⟨_,h1,g,rfl,h2⟩
 |tb ip ik u=>exact(B6 ok.1 ok.2.1 ok.2.2.1 ok.2.2.2 hr (hlen.trans (mC ..)) hat ht).imp fun v X' h=>⟨_,h,rfl⟩
end
/-- a letter -/
structure Lt where
 kind:Nat
 fr:Nat
 to:Nat
 tag:Nat
 ip:Nat
 ik:Nat
 ps:List Nat
 rs:List Rg
def bM(X:Heap)(l:Lt)(c:List F):Prop:=∃fp fq,c=[iN l.kind,iN l.fr,iN l.to,iN l.tag,iN l.ip,iN l.ik,fp,fq]∧bo X fp l.ps∧ck X fq l.rs
structure cT(l:Lt):Prop where
 k1:1≤l.kind
 k2:l.kind≤3
 fr:l.fr≤2147483647
 to:l.to≤2147483647
 tag:l.tag≤2147483647
 ip:l.ip≤2147483647
 ik:l.ik≤2147483647
 ps:∀x∈l.ps,x≤2147483647
 pl:l.ps.length≤255
 rs:∀r∈l.rs,dy r
 rl:l.rs.length≤255
theorem bM.mono(X Y:Heap)(l:Lt)(c:List F)(hm:ab X Y)(h:bM X l c):bM Y l c:=by
 obtain⟨fp,fq,h1,h2,h3⟩:=h
 exact⟨fp,fq,h1,aO hm h2,h3.mono hm⟩
theorem bM.len{X:Heap}{l:Lt}{c:List F}(h:bM X l c):c.length=8:=by
 obtain⟨fp,fq,rfl,_⟩:=h;rfl
def ltNums(l:Lt):List Nat:=[l.fr,l.to,l.tag,l.ip,l.ik]
theorem rT{X:Heap}{n:Nat}{f:F}{g:Nat}{caps cs:List F}(p:Nat→Bool)(hr:aF X 1 f=some cs)(hlt:cs.length<100000)(hgo:bX Tryz.prog g=true)(hg:∀(i:Nat) x,cs[i]?=some x→∀Y m,ab X Y→ap Y m→af g ([vf x]++caps.map fun x=>.u (.f x)) Y m fun v _=>v=vf (.bool (p i)))(ht:ap X n):af 218 [vf (f),.u (.fn g caps)] X n fun v _=>ll p cs.length v:=by
 refine af.of_to kr ?_
 have s0:aa X X n (cat [[]]):=aa.ini ht
 have hm0:ab X X:=ab.rfl
 refine ah 1 (aP 1 (ov 7 (lv cs.length (cQ hr)) (ae 1 (bk 0 (lp (aC.for (cs.length) (fun i A Hq nq=>∃(Y:Heap),aL A [(0,vf (f)),(1,.u (.fn g caps)),(7,vi cs.length),(8,vi i)]∧aa Y Hq nq (cat [[]])∧(ab X Y)∧(aF Y 1 f=some cs)∧(∀j,j<i→p j=false)) ⟨X,az (ts:=[0,1,7,8]) kr,s0,(hm0),(hr),(fun j hj=>by omega)⟩ (fun i A H1 n2 hi hI=>?_) (fun A H1 n2 hI=>?_)))))))
 ·obtain⟨Y,hT,s3,hm0,hr,hn⟩:=hI
  refine To.keep _ ?_ hT.sub
  have hx:cs[i]?=some cs[i]:=List.getElem?_eq_getElem hi
  obtain⟨id,off,cap,rfl,hat⟩:=cW hr om
  refine ag (ov 9 (lT i cs.length) (aj ?_))
  cases hp:p i
  ·refine sq (aM (nx (aD 1 (ah 2 (ai 3 (ov 14 (ix id off 1 cs.length i) (ov 15 (lx id (off+i*1) cs[i] (by rw[Nat.mul_one];exact(hat i _ hx).mono (s3.mono _))) ?_)))))))
   obtain⟨_,X4,H5,n6,m7,s8,J9,rfl⟩:=(((hg i _ hx _ _ hm0 s3.topX).imp fun v X' h=>(h.trans (by rw[hp]):v=vf (.bool false))):af g ([vf (cs[i])]++caps.map fun x=>.u (.f x)) Y (n2) _).on s3
   have hm0:=hm0.tr m7
   have hr:=aO m7 hr
   refine ov 16 (J9 _ _ kr hgo) (aj (ar (nx (rg (ov 18 (aN i 1) (aR 1 ?_))))))
   exact .inl ⟨rfl,X4,az (ts:=[0,1,7,8]) kr,s8,(hm0),(hr),(fun j hj=>by rcases Nat.lt_or_ge j i with h | h;exact hn j h;rw[show j=i by omega];exact hp)⟩
  ·refine sq (aM (nx (aD 1 (ah 2 (ai 3 (ov 14 (ix id off 1 cs.length i) (ov 15 (lx id (off+i*1) cs[i] (by rw[Nat.mul_one];exact(hat i _ hx).mono (s3.mono _))) ?_)))))))
   obtain⟨_,W,_,_,m1,s,J,rfl⟩:=(((hg i _ hx _ _ hm0 s3.topX).imp fun v X' h=>(h.trans (by rw[hp]):v=vf (.bool true))):af g ([vf (cs[i])]++caps.map fun x=>.u (.f x)) Y (n2) _).on s3
   have hm0:=hm0.tr m1
   refine ov 16 (J _ _ kr hgo) (aj (iT (ah 2 (rt (.inr ⟨sm,?_⟩)))))
   exact⟨.inr rfl,_,kr,W,_,s,hm0,.inl ⟨i,hi,hp,hn,rfl⟩⟩
 ·obtain⟨Y,hT,s,hm0,hr,hn⟩:=hI
  refine To.keep _ ?_ hT.sub
  refine ag (ov 9 (lF cs.length cs.length sm) (aQ (iF (xt 0 ?_))))
  refine⟨sm,?_⟩
  show To Tryz.prog 218 [1,1] _ _ _ _
  refine ah 1 (rt ?_)
  exact⟨.inr rfl,_,kr,Y,_,s,hm0,.inr ⟨hn,rfl⟩⟩
theorem AU{X:Heap}{n:Nat}{f:F}{g:Nat}{caps cs:List F}(p:Nat→Bool)(hr:aF X 1 f=some cs)(hlt:cs.length<100000)(hgo:bX Tryz.prog g=true)(hg:∀(i:Nat) x,cs[i]?=some x→∀Y m,ab X Y→ap Y m→af g ([vf x]++caps.map fun x=>.u (.f x)) Y m fun v _=>v=vf (.bool (p i)))(ht:ap X n):af 184 [vf (f),.u (.fn g caps)] X n fun v _=>(v=vf (.bool true)∧∃i,i<cs.length∧p i=true)∨(v=vf (.bool false)∧∀i,i<cs.length→p i=false):=by
 refine af.of_to kr ?_
 have s0:aa X X n (cat [[]]):=aa.ini ht
 have hm0:ab X X:=ab.rfl
 obtain⟨v,X2,n2,hc,hm,ht2,hfi⟩:=(rT p hr hlt hgo hg s0.topX:af _ _ _ _ _)
 rcases hfi with⟨i,hi,hp,hn,rfl⟩|⟨hn,rfl⟩
 ·refine ah 1 (ai 2 ?_)
  obtain⟨_,W,_,_,m1,s,J,rfl⟩:=(af.same hc hm ht2).on s0
  have hm0:=hm0.tr m1
  refine ov 7 (J _ _) (ov 8 (hT i 0) (ax 1 ?_))
  exact⟨.inr rfl,_,kr,W,_,s,hm0,.inl ⟨rfl,i,hi,hp⟩⟩
 ·refine ah 1 (ai 2 ?_)
  obtain⟨_,W,_,_,m2,s,J,rfl⟩:=(af.same hc hm ht2).on s0
  have hm0:=hm0.tr m2
  refine ov 7 (J _ _) (ov 8 (au (gS .i64 (x:=(-1:Int)) (y:=(0:Int)) om)) (ax 1 ?_))
  exact⟨.inr rfl,_,kr,W,_,s,hm0,.inr ⟨rfl,hn⟩⟩
theorem mB{X:Heap}{n:Nat}{f:F}{g:Nat}{caps:List F}{l:List Rg}(p:Nat→Bool)(hr:ch aV 10 X f l)(hlt:l.length<100000)(hgo:bX Tryz.prog g=true)(hg:∀(i:Nat) a,l[i]?=some a→∀c Y m,aV Y a c→ab X Y→ap Y m→af g ([.u (.agg c)]++caps.map fun x=>.u (.f x)) Y m fun v _=>v=vf (.bool (p i)))(ht:ap X n):af 166 [vf (f),.u (.fn g caps)] X n fun v _=>ll p l.length v:=by
 refine af.of_to kr ?_
 have s0:aa X X n (cat [[]]):=aa.ini ht
 have hm0:ab X X:=ab.rfl
 refine ah 1 (aP 1 (ov 7 (lv l.length hr.lenA) (ae 1 (bk 0 (lp (aC.for (l.length) (fun i A Hq nq=>∃(Y:Heap),aL A [(0,vf (f)),(1,.u (.fn g caps)),(7,vi l.length),(8,vi i)]∧aa Y Hq nq (cat [[]])∧(ab X Y)∧(ch aV 10 Y f l)∧(∀j,j<i→p j=false)) ⟨X,az (ts:=[0,1,7,8]) kr,s0,(hm0),(hr),(fun j hj=>by omega)⟩ (fun i A H n1 hi hI=>?_) (fun A H n1 hI=>?_)))))))
 ·obtain⟨Y,hT,s,hm0,hr,hn⟩:=hI
  refine To.keep _ ?_ hT.sub
  have hx:l[i]?=some l[i]:=List.getElem?_eq_getElem hi
  obtain⟨id,off,cap,all,ex,c,rfl,h2,h3,h4,hR⟩:=hr.at hx
  have hcl:c.length=10:=by rw[←h4,List.length_take,List.length_drop];omega
  refine ag (ov 9 (lT i l.length) (aj ?_))
  cases hp:p i
  ·refine sq (aM (nx (aD 1 (ah 2 (ai 3 (ov 14 (ix id off 10 l.length i) (ov 15 (aG (id:=id) (off:=off+i*10) (sz:=10) (c:=c) (s.mono _ _ h2) h3 h4) ?_)))))))
   obtain⟨_,W,_,_,m1,s,J,rfl⟩:=(((hg i _ hx _ _ _ hR hm0 s.topX).imp fun v X' h=>(h.trans (by rw[hp]):v=vf (.bool false))):af g ([.u (.agg (c))]++caps.map fun x=>.u (.f x)) Y (n1) _).on s
   have hm0:=hm0.tr m1
   have hr:=hr.mono aV.mono m1
   refine ov 16 (J _ _ kr hgo) (aj (ar (nx (rg (ov 18 (aN i 1) (aR 1 ?_))))))
   exact .inl ⟨rfl,W,az (ts:=[0,1,7,8]) kr,s,(hm0),(hr),(fun j hj=>by rcases Nat.lt_or_ge j i with h | h;exact hn j h;rw[show j=i by omega];exact hp)⟩
  ·refine sq (aM (nx (aD 1 (ah 2 (ai 3 (ov 14 (ix id off 10 l.length i) (ov 15 (aG (id:=id) (off:=off+i*10) (sz:=10) (c:=c) (s.mono _ _ h2) h3 h4) ?_)))))))
   obtain⟨_,W,_,_,m2,s,J,rfl⟩:=(((hg i _ hx _ _ _ hR hm0 s.topX).imp fun v X' h=>(h.trans (by rw[hp]):v=vf (.bool true))):af g ([.u (.agg (c))]++caps.map fun x=>.u (.f x)) Y (n1) _).on s
   have hm0:=hm0.tr m2
   refine ov 16 (J _ _ kr hgo) (aj (iT (ah 2 (rt (.inr ⟨sm,?_⟩)))))
   exact⟨.inr rfl,_,kr,W,_,s,hm0,.inl ⟨i,hi,hp,hn,rfl⟩⟩
 ·obtain⟨Y,hT,s,hm0,hr,hn⟩:=hI
  refine To.keep _ ?_ hT.sub
  refine ag (ov 9 (lF l.length l.length sm) (aQ (iF (xt 0 ?_))))
  refine⟨sm,?_⟩
  show To Tryz.prog 166 [1,1] _ _ _ _
  refine ah 1 (rt ?_)
  exact⟨.inr rfl,_,kr,Y,_,s,hm0,.inr ⟨hn,rfl⟩⟩
theorem qK{X:Heap}{n:Nat}{f:F}{g:Nat}{caps:List F}{l:List Rg}(p:Nat→Bool)(hr:ch aV 10 X f l)(hlt:l.length<100000)(hgo:bX Tryz.prog g=true)(hg:∀(i:Nat) a,l[i]?=some a→∀c Y m,aV Y a c→ab X Y→ap Y m→af g ([.u (.agg c)]++caps.map fun x=>.u (.f x)) Y m fun v _=>v=vf (.bool (p i)))(ht:ap X n):af 156 [vf (f),.u (.fn g caps)] X n fun v _=>(v=vf (.bool true)∧∃i,i<l.length∧p i=true)∨(v=vf (.bool false)∧∀i,i<l.length→p i=false):=by
 refine af.of_to kr ?_
 have s0:aa X X n (cat [[]]):=aa.ini ht
 have hm0:ab X X:=ab.rfl
 obtain⟨v,X2,n2,hc,hm,ht2,hfi⟩:=(mB p hr hlt hgo hg s0.topX:af _ _ _ _ _)
 rcases hfi with⟨i,hi,hp,hn,rfl⟩|⟨hn,rfl⟩
 ·refine ah 1 (ai 2 ?_)
  obtain⟨_,W,_,_,m1,s,J,rfl⟩:=(af.same hc hm ht2).on s0
  have hm0:=hm0.tr m1
  refine ov 7 (J _ _) (ov 8 (hT i 0) (ax 1 ?_))
  exact⟨.inr rfl,_,kr,W,_,s,hm0,.inl ⟨rfl,i,hi,hp⟩⟩
 ·refine ah 1 (ai 2 ?_)
  obtain⟨_,W,_,_,m2,s,J,rfl⟩:=(af.same hc hm ht2).on s0
  have hm0:=hm0.tr m2
  refine ov 7 (J _ _) (ov 8 (au (gS .i64 (x:=(-1:Int)) (y:=(0:Int)) om)) (ax 1 ?_))
  exact⟨.inr rfl,_,kr,W,_,s,hm0,.inr ⟨rfl,hn⟩⟩
theorem A8{X:Heap}{n:Nat}{a:Nat}(h:a≤2147483647)(ht:ap X n):af 185 [vi a] X n fun v _=>v=vf (.bool false):=by
 refine af.of_to kr ?_
 have s0:aa X X n (cat [[]]):=aa.ini ht
 have hm0:ab X X:=ab.rfl
 refine ah 1 (ai 1 (ov 4 (lF a 0) (go 2 (ov 7 (gF a 2147483647) (ax 2 ?_)))))
 exact⟨.inr rfl,_,kr,X,_,s0,hm0,rfl⟩
theorem Ff{X:Heap}{n:Nat}{r:Rg}{c:List F}(h:aV X r c)(ok:dy r)(ht:ap X n):af 186 [.u (.agg (c))] X n fun v _=>v=vf (.bool false):=by
 refine af.of_to kr ?_
 have s0:aa X X n (cat [[]]):=aa.ini ht
 have hm0:ab X X:=ab.rfl
 have hcl:=h.len
 refine ag ?_
 obtain⟨_,s,J⟩:=ay s0 (.cells (c) true)
 refine ov 1 (J _ _ (vf (.ptr (n) (0)))) (ae 1 (ag (ov 3 (aG (off:=0) (sz:=10) (c:=c) (s.at 0 rfl) om (by rw[List.drop_zero,List.take_of_length_le om])) ?_)))
 obtain⟨_,W,_,_,m,s,J,rfl⟩:=(t_ h ok s.topX).on s
 have hm0:=hm0.tr m
 refine ov 4 (J _ _) (ax 2 ?_)
 exact⟨.inr rfl,_,kr,W,_,s,hm0,rfl⟩
theorem vj{X:Heap}{n:Nat}{f:F}{l:List Nat}(hr:bo X f l)(hb:∀x∈l,x≤2147483647)(hlt:l.length<100000)(ht:ap X n):af 184 [vf f,.u (.fn 185 [])] X n fun v X'=>v=vf (.bool false):=
 (AU (g:=185) (caps:=[]) (fun _=>false) hr (by simpa[is]using hlt) kr (fun i x hx Y m _ ht=>by
  obtain⟨y,hy,rfl⟩:∃y,l[i]?=some y∧x=iN y:=by
   simp only[is,List.getElem?_map,Option.map_eq_some_iff]at hx
   obtain⟨y,h1,h2⟩:=hx
   exact⟨y,h1,h2.symm⟩
  exact A8 (hb y (List.mem_of_getElem? hy)) ht) ht).imp fun v X' h=>by
   rcases h with⟨_,_,_,h⟩|⟨h,_⟩
   ·cases h
   ·exact h
theorem Fs{X:Heap}{n:Nat}{f:F}{l:List Rg}(hr:ck X f l)(hb:∀x∈l,dy x)(hlt:l.length<100000)(ht:ap X n):af 156 [vf f,.u (.fn 186 [])] X n fun v X'=>v=vf (.bool false):=
 (qK (g:=186) (caps:=[]) (fun _=>false) hr hlt kr (fun i a ha c Y m hR _ ht=>Ff hR (hb a (List.mem_of_getElem? ha)) ht) ht).imp fun v X' h=>by
  rcases h with⟨_,_,_,h⟩|⟨h,_⟩
  ·cases h
  ·exact h
theorem ui{X:Heap}{n:Nat}{l:Lt}{fp fq:F}(ht:ap X n):af 133 [.u (.agg [iN l.kind,iN l.fr,iN l.to,iN l.tag,iN l.ip,iN l.ik,fp,fq])] X n fun v X'=>∃g,v=vf g∧bo X' g (ltNums l):=by
 refine af.of_to kr ?_
 have s0:aa X X n (cat [[]]):=aa.ini ht
 have hm0:ab X X:=ab.rfl
 refine ag ?_
 obtain⟨_,s,J⟩:=ay s0 (.cells [iN l.kind,iN l.fr,iN l.to,iN l.tag,iN l.ip,iN l.ik,fp,fq] true)
 refine ov 1 (J _ _ (vf (.ptr (n) (0)))) (ae 1 (ai 1 (ov 4 (ld 1 (s.at 0 rfl) rfl) (go 1 (ov 6 (ld 2 (s.at 0 rfl) rfl) (go 1 (ov 8 (ld 3 (s.at 0 rfl) rfl) (go 2 (ov 11 (ld 4 (s.at 0 rfl) rfl) (go 2 (ov 14 (ld 5 (s.at 0 rfl) rfl) ?_)))))))))))
 obtain⟨W,_,s,m,f,J⟩:=bj s (.cells [iN l.fr,iN l.to,iN l.tag,iN l.ip,iN l.ik] true)
 have hm0:=hm0.tr m
 refine ov 15 (J _ _ (vf (.sl (n+1) (0) 1 (5) none))) (ax 1 ?_)
 exact⟨.inr rfl,_,kr,W,_,s,hm0,_,rfl,bf (len:=5) (cap:=none) f rfl⟩
theorem uc{X:Heap}{n:Nat}{l:Lt}{fp fq:F}(ok:cT l)(hp:bo X fp l.ps)(hq:ck X fq l.rs)(ht:ap X n):af 132 [.u (.agg [iN l.kind,iN l.fr,iN l.to,iN l.tag,iN l.ip,iN l.ik,fp,fq])] X n fun v _=>v=vf (.bool true):=by
 refine af.of_to kr ?_
 have s0:aa X X n (cat [[]]):=aa.ini ht
 have hm0:ab X X:=ab.rfl
 obtain⟨o1,o2,o3,o4,o5,o6,o7,o8,o9,o,_⟩:=ok
 refine ag ?_
 obtain⟨_,s,J⟩:=ay s0 (.cells [iN l.kind,iN l.fr,iN l.to,iN l.tag,iN l.ip,iN l.ik,fp,fq] true)
 refine ov 1 (J _ _ (vf (.ptr (n) (0)))) (ae 1 (aP 1 (ov 4 (ld 0 (s.at 0 rfl) rfl) (ov 5 (lF l.kind 1) (go 2 (ov 8 (ld 0 (s.at 0 rfl) rfl) (ov 9 (gF l.kind 3) (go 2 (ov 12 (la 0 8 [iN l.kind,iN l.fr,iN l.to,iN l.tag,iN l.ip,iN l.ik,fp,fq] (s.at 0 rfl)) ?_)))))))))
 obtain⟨_,_,_,_,m,s,J,⟨g,rfl,hg⟩⟩:=(ui (l:=l) (fp:=fp) (fq:=fq) s.topX).on s
 refine ov 13 (J _ _) ?_
 obtain⟨_,_,_,_,m1,s,J,rfl⟩:=(vj hg (by simp[ltNums];omega) (by simp[ltNums]) s.topX).on s
 have hp:=aO (m.tr m1) hp
 refine ov 14 (J _ _) (go 3 (ov 18 (ld 6 (s.at 0 rfl) rfl) ?_))
 obtain⟨_,_,_,_,m2,s,J,rfl⟩:=(vj hp o8 om s.topX).on s
 have hp:=aO m2 hp
 have hq:=hq.mono (m.tr (m1.tr m2))
 refine ov 19 (J _ _) (ae 1 (ar (nx (ai 1 (ov 22 (ld 6 (s.at 0 rfl) rfl) (ov 23 (lv l.ps.length ((cQ hp).trans (by simp[is]))) (ov 24 (kT l.ps.length 255) (go 2 (ov 27 (ld 7 (s.at 0 rfl) rfl) (ov 28 (lv l.rs.length hq.lenA) (ov 29 (kT l.rs.length 255) (go 3 (ov 33 (ld 7 (s.at 0 rfl) rfl) ?_)))))))))))))
 obtain⟨_,W,_,_,m3,s,J,rfl⟩:=(Fs hq o om s.topX).on s
 have hm0:=hm0.tr (m.tr (m1.tr (m2.tr m3)))
 refine ov 34 (J _ _) (ax 3 ?_)
 exact⟨.inr rfl,_,kr,W,_,s,hm0,rfl⟩
end Go.Proofs.YtkimkgbppegkhaaGreat.Cm
