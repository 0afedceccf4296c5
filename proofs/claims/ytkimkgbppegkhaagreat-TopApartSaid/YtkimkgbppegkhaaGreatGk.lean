/- The clean machine's walks of blocks: made of sources, and their symbols. · The clean machine's walks of cutting: how many symbols, how many blocks, how many symbols a block has. · The clean machine's walks of cutting: an object cut into rows. -/
import Derived.Test.YtkimkgbppegkhaaGreatGh
import Derived.Test.YtkimkgbppegkhaaGreatCe
set_option linter.unusedVariables false
set_option linter.unusedSimpArgs false
namespace Go.Proofs.YtkimkgbppegkhaaGreat.Cm
open Go Go.RowKit Go.Proofs.YtkimkgbppegkhaaGreat.Gf
set_option maxRecDepth 1000000
theorem bJ.len{X:Heap}{f:F}{rs:List (List Nat)}(h:bJ X f rs):∃fs,aF X 1 f=some fs∧aw (aB X) fs rs∧fs.length=rs.length:=by
 obtain⟨fs,h1,h2⟩:=h
 exact⟨fs,h1,h2,h2.length.symm⟩
theorem xr{len:Nat}{v:V}(h:(v=vf (.bool true)∧∃i,i<len∧(fun _=>false:Nat→Bool) i=true)∨(v=vf (.bool false)∧∀i,i<len→(fun _=>false:Nat→Bool) i=false)):v=vf (.bool false):=by
 rcases h with⟨_,i,_,h⟩|⟨h,_⟩
 ·cases h
 ·exact h
theorem aw.at{α β:Type}{R:α→β→Prop}:∀{l:List α} {k:List β},aw R l k→∀{i:Nat} {a:α},l[i]?=some a→∃b,k[i]?=some b∧R a b
 |a::l,b::k,H,0,x,h=>by simp at h;subst h;exact⟨b,sm,H.1⟩
 |a::l,b::k,H,i+1,x,h=>by simpa using aw.at H.2 (i:=i) (a:=x) (by simpa using h)
 |[],[],_,i,x,h=>by simp at h
 |[],_::_,H,_,_,_=>H.elim
 |_::_,[],H,_,_,_=>H.elim
theorem Ch{X:Heap}{n:Nat}{k N:Nat}{fc fe:F}(cs:List (List Nat))(es:List Nat)(h1:1≤k)(h8:k≤8)(hps:∀e∈es,gc k e)(hlt:es.length<10000)(hc:bJ X fc cs)(he:bo X fe es)(hcs:Mx (lK k) N cs)(hN0:0<N)(hN:N≤64)(ht:ap X n):af 55 [.u (.agg [iN k,iN (sK k),.int .i64 2]),vf (.int .i64 0),vi N,vf (fc),vf (fe)] X n fun v X'=>∃g,v=vf g∧bJ X' g (es.map fun e=>a9 N (cO k e) cs):=by
 refine af.of_to kr ?_
 have s0:=aa.ini ht
 have hm0:ab X X:=ab.rfl
 refine ag ?_
 obtain⟨H1,s2,J3⟩:=cu s0 (.cells [iN k,iN (sK k),.int .i64 2] true)
 refine ov 5 (J3 _ _ (vf (.ptr (n) (0)))) (ae 1 (ah 1 (aP 1 (ov 16 (lv es.length he.lenA) (ae 1 (bk 0 (To.loop kr (aC.for (es.length) (fun i A Hq nq=>∃(Y:Heap) (a:F) (fs:List F),aL A [(1,vf (.int .i64 0)),(2,vi N),(3,vf (fc)),(5,vf (.ptr (n) (0))),(11,vf (a)),(15,vf (fe)),(16,vi es.length),(17,vi i)]∧aa Y Hq nq ([(n,.cells [iN k,iN (sK k),.int .i64 2] true)]++(a_ (a) (fs)++[]))∧(ab X Y)∧(bJ Y fc cs)∧(bo Y fe es)∧(bO 1 a fs)∧(aw (aB Y) fs ((es.take i).map fun e=>a9 N (cO k e) cs))) ⟨X,.sl0,[],az (ts:=[1,2,3,5,11,15,16,17]) kr,s2,(hm0),(hc),(he),(bO.nil 1),(trivial)⟩ (fun i A H4 n5 hi hI=>?_) (fun A H4 n5 hI=>?_)))))))))
 ·obtain⟨Y,a,fs,hT,s6,hm0,hc,he,ha,hA⟩:=hI
  refine To.keep _ ?_ hT.sub
  obtain⟨eid,eoff,ecap,rfl,hea⟩:=he.sl om
  have hx:es[i]?=some es[i]:=List.getElem?_eq_getElem hi
  have hp:=hps _ (List.getElem_mem hi)
  have hl:=hA.length
  rw[List.length_map,List.length_take]at hl
  refine ag (ov 18 (lT i es.length) (aQ (aM (nx (aD 1 (ag (ov 19 (ix eid eoff 1 es.length i) (ov 20 (lx eid (eoff+i*1) (iN es[i]) (by rw[Nat.mul_one];exact(hea i _ hx).mono (s6.mono _))) (ae 1 (ag (ov 21 (la 0 3 [iN k,iN (sK k),.int .i64 2] (s6.at 0 rfl)) (go 4 ?_))))))))))))
  obtain⟨_,X7,n8,hc9,hm10,ht11,⟨g,rfl,hg⟩⟩:=(wc cs h1 h8 hp hc hcs hN0 hN s6.topX:af 48 [.u (.agg [iN k,iN (sK k),.int .i64 2]),vf (.int .i64 0),vi N,vf (fc),vf (iN es[i])] Y (n5) _)
  obtain⟨_,hc13,s⟩:=s6.call hc9 hm10 ht11
  have hm0:=hm0.tr hm10
  have hc:=hc.mono hm10
  have he:=he.mono hm10
  have hA:=hA.mono fun _ _ q=>q.mono hm10
  refine ov 26 (jC hc13) (ae 1 (aP 1 (ov 28 (lv ((a9 N (cO k es[i]) cs).length) hg.lenA) ?_)))
  have hgl:=oi (N:=N) (cO k es[i]) cs hcs.2
  refine ov 29 (eF ((a9 N (cO k es[i]) cs).length) 0) (aj (ar (nx (rg (go 2 ?_)))))
  obtain⟨W,_,s,m,f,J⟩:=bj s (.cells [g] true)
  have hm0:=hm0.tr m
  have hc:=hc.mono m
  have he:=he.mono m
  have hA:=hA.mono fun _ _ q=>q.mono m
  have hg:=hg.mono m
  refine ov 32 (J _ _ (vf (.sl (n8) (0) 1 (1) none))) ?_
  obtain⟨_,_,_,ha24,s,J⟩:=eW (sz:=1) (bytes:=24) (x:=.sl (n8) (0) 1 (1) none) (fs:=fs) (new:=[g]) (M1:=[(n,.cells [iN k,iN (sK k),.int .i64 2] true)]) (M2:=[]) s ha (bf (s.mono _ _ f) rfl) (rfl) om om
  refine ov 33 (J _ _) (ae 1 (rg (ov 34 (aN i 1) (aR 1 ?_))))
  exact .inl ⟨rfl,W,_,_,az (ts:=[1,2,3,5,11,15,16,17]) kr,s,(hm0),(hc),(he),(ha24),(by rw[t9 hi];exact hA.snoc hg)⟩
 ·obtain⟨Y,a,fs,hT,s,hm0,hc,he,ha,hA⟩:=hI
  refine To.keep _ ?_ hT.sub
  refine ag (ov 18 (au (cr .i64 (x:=(((es.length):Nat):Int)) (y:=((es.length:Nat):Int)) sm)) (aj ?_))
  obtain⟨W,m1,s,hrow,hrowk⟩:=aa.acc (sz:=1) (M1:=[(n,.cells [iN k,iN (sK k),.int .i64 2] true)]) (M2:=[]) (a:=a) (fs:=fs) (by simpa using s) ha
  have hm0:=hm0.tr m1
  have hA:=hA.mono fun _ _ q=>q.mono m1
  have s:aa W H4 (n5) [(n,.cells [iN k,iN (sK k),.int .i64 2] true)]:=by simpa using s
  refine sq (iF (To.exit 0 kr ?_))
  refine⟨sm,?_⟩
  show To Tryz.prog 55 [1,1,1] _ _ _ _
  refine ah 2 (rt ?_)
  exact⟨.inr rfl,_,kr,W,_,s,hm0,_,rfl,_,hrow,by rw[List.take_length]at hA;exact hA⟩
theorem HB{X:Heap}{n:Nat}{b N:Nat}{f:F}(l:List Nat)(hr:aB X f l)(hb:X b=some (.cells [iN N] true))(hl:l.length=N)(ht:ap X n):af 44 [vf (f),vf (.ptr (b) (0))] X n fun v X'=>v=vf (.bool false):=by
 refine af.of_to kr ?_
 have s0:=aa.ini ht
 have hm0:ab X X:=ab.rfl
 refine ah 1 (ai 1 (ov 5 (lv l.length hr.lenA) (ov 6 (am (off:=0) (x:=iN N) (s0.mono _ _ hb) kr) (ov 7 (uF l.length N) (ax 1 ?_)))))
 exact⟨.inr rfl,_,kr,X,_,s0,hm0,rfl⟩
/-- a block, as a heap has it -/
def jT(X:Heap)(b k N:Nat)(cs:List (List Nat)):Prop:=∃pf,X b=some (.cells [iN k,iN (sK k),.int .i64 2,.int .i64 0,iN N,pf] true)∧bJ X pf cs
theorem jT.mono{X Y:Heap}{b k N:Nat}{cs:List (List Nat)}(hm:ab X Y)(h:jT X b k N cs):jT Y b k N cs:=by
 obtain⟨pf,h1,h2⟩:=h
 exact⟨pf,hm _ _ h1,h2.mono hm⟩
theorem ER{X:Heap}{n:Nat}{k N:Nat}{fd:F}(ds:List (List Nat))(h1:1≤k)(h8:k≤8)(hd:bJ X fd ds)(hds:Mx k N ds)(hN0:0<N)(hN:N≤64)(ht:ap X n):af 25 [vi N,vf (fd)] X n fun v X'=>∃g e,v=.tup [.f g,.f (.int .i64 e)]∧((e=0∧∃b cs,g=.ptr b 0∧jT X' b k N cs∧dV (lK k) N (sK k+2+(List.range k).length) (dB k (List.range k)) (eS k N ds) cs)∨(e=4∧g=.ptr0∧fO (lK k) N (sK k+2+(List.range k).length) (dB k (List.range k)) (eS k N ds))):=by
 refine af.of_to kr ?_
 have s0:=aa.ini ht
 have hm0:ab X X:=ab.rfl
 obtain⟨fds,hdr,hdA⟩:=hd
 have hfl:fds.length=k:=by rw[←hdA.length];exact hds.1
 have hd:bJ X fd ds:=⟨fds,hdr,hdA⟩
 have hL:=lM h8
 have hdl:=hds.1
 refine ag ?_
 obtain⟨_,s,J⟩:=cu s0 (.cells [iN N] true)
 refine ov 2 (J _ _ (vf (.ptr (n) (0)))) (ae 2 (ai 1 (ov 12 (lv ds.length hd.lenA) ?_)))
 rw[hds.1]
 obtain⟨_,W,n1,hc36,hm37,ht38,rfl⟩:=(xD h1 h8 s.topX:af 42 [vi k] X (n+1) _)
 obtain⟨_,hc40,s1⟩:=s.call hc36 hm37 ht38
 have hm0:=hm0.tr hm37
 have hdr:=aO hm37 hdr
 have hdA:=hdA.mono fun _ _ q=>q.mono hm37
 refine ov 13 (jC hc40) (go 3 ?_)
 obtain⟨_,s2,J⟩:=cu s1 (.cells [.int .i64 0,.int .i64 0,.int .i64 0] true)
 refine ov 6 (J _ _ (vf (.ptr (n1) (0)))) ?_
 obtain⟨H,s3,J⟩:=dE (off:=0) (new:=[iN k,iN (sK k),.int .i64 2]) (cs':=[iN k,iN (sK k),.int .i64 2]) s2 0 rfl sm rfl
 have s3:aa W H (n1+1) [(n1,.cells [iN k,iN (sK k),.int .i64 2] true),(n,.cells [iN N] true)]:=s3
 refine oe (J _ _) (ae 1 (sq (ag (ov 16 (am (off:=0) (x:=iN N) (s3.at 1 rfl) kr) (ov 17 (lF N 1) (go 1 (ov 19 (am (off:=0) (x:=iN N) (s3.at 1 rfl) kr) (ov 20 (gF N 64) (go 3 (ov 24 (uF 0 0) (ae 1 (ar (nx (aP 2 ?_))))))))))))))
 obtain⟨_,_,n2,hc50,hm51,ht52,rfl⟩:=(((uP (g:=44) (caps:=[.ptr n 0]) (cs:=fds) (fun _=>false) (aO s3.mono hdr) om kr (fun i x hx Y' m' hm' ht'=>by
  obtain⟨r,hr1,hr2⟩:=hdA.at hx
  exact HB r (hr2.mono (s3.mono.tr hm')) (hm' _ _ (s3.at 1 rfl)) (hds.2 r (List.mem_of_getElem? hr1)).1 ht') s3.top).imp fun v Y h=>xr h):af 43 [vf (fd),.u (.fn 44 [.ptr (n) (0)])] H (n1+1) _)
 have s4:=s3.callH hc50 hm51 ht52
 refine ov 28 (jC hc50) (aj (ar (nx (ai 1 (ov 31 (am (off:=0) (x:=iN k) (s4.at 0 rfl) kr) ?_)))))
 obtain⟨_,W,n3,hc56,hm57,ht58,rfl⟩:=(vH h1 h8 s4.topX:af 45 [vi k] W (n2) _)
 obtain⟨_,hc60,s5⟩:=s4.call hc56 hm57 ht58
 have hm0:=hm0.tr hm57
 have hdr:=aO hm57 hdr
 have hdA:=hdA.mono fun _ _ q=>q.mono hm57
 refine ov 32 (jC hc60) (ae 5 (aP 1 (ov 36 (uF 0 0) (aj (ar (nx (sq (To.draw [3,4,5,0,1,2,6,7,8,9,10,11,12] cX kr kr (Sd.go (L:=[4,5,0,1,2,6,7,8,9,10,11,12]) [3] kr (Sd.read (some 43) (n1) kr kr kr trivial (am (off:=0) (x:=iN k) (s5.at 0 rfl) kr kr) ?_))))))))))
 obtain⟨_,W,n4,hc64,hm65,ht66,⟨ge,rfl,hge⟩⟩:=(uo h1 h8 s5.topX:af 47 [vi k] W (n3) _)
 obtain⟨_,hc68,s6⟩:=s5.call hc64 hm65 ht66
 have hm0:=hm0.tr hm65
 have hdr:=aO hm65 hdr
 have hdA:=hdA.mono fun _ _ q=>q.mono hm65
 refine Sd.eff (some 44) kr kr (b_ kr hc68 kr) ⟨.inl kr,trivial⟩ (Sd.read (some 39) (n1) kr kr kr ⟨ke (s5.at 0 rfl) (s6.at 0 rfl),trivial⟩ (aG (off:=0) (sz:=3) (c:=[iN k,iN (sK k),.int .i64 2]) (s6.at 0 rfl) sm rfl kr) (Sd.go (L:=[2,6,7,8,9,10,11,12]) [1] kr (Sd.read (some 41) (n) kr kr kr ⟨ke (s5.at 1 rfl) (s6.at 1 rfl),trivial⟩ (am (off:=0) (x:=iN N) (s6.at 1 rfl) kr kr) (Sd.go (L:=[7,8,9,10,11,12]) [6] kr ?_))))
 obtain⟨_,W,n5,hc72,hm73,ht74,⟨g,e,rfl,hS⟩⟩:=(uE (List.range k) ds h1 h8 hge (fun e he=>oL h1 h8 (by have:=List.mem_range.1 he;omega)) (by rw[List.length_range];omega) ⟨fds,hdr,hdA⟩ (by rw[List.length_range];exact hds) hN0 om s6.topX:af 46 [.u (.agg [iN k,iN (sK k),.int .i64 2]),vf (.int .i64 0),vi N,vf (ge),vf (fd)] W (n4) _)
 obtain⟨_,hc76,s7⟩:=s6.call hc72 hm73 ht74
 have hm0:=hm0.tr hm73
 refine Sd.eff (some 46) kr kr (b_ kr hc76 kr) ⟨.inl kr,.inl kr,.inl kr,trivial⟩ (Sd.go (L:=[]) [8,9,10,11,12] kr (Sd.done ?_))
 show To Tryz.prog 25 [1,1,1,1,1,1,1] _ _ _ _
 rcases hS with⟨rfl,cs,hcs,hS⟩|⟨rfl,rfl,hun⟩
 ·refine aP 1 (ov 50 (uF 0 0) (aj (ar (nx (ag (ov 52 (la 0 3 [iN k,iN (sK k),.int .i64 2] (s7.at 0 rfl)) (go 1 (ov 54 (am (off:=0) (x:=iN N) (s7.at 1 rfl) kr) (go 2 ?_)))))))))
  obtain⟨_,s8,J⟩:=cu s7 (.cells [iN k,iN (sK k),.int .i64 2,.int .i64 0,iN N,g] true)
  refine ov 57 (J _ _ (vf (.ptr (n5) (0)))) (ax 2 ?_)
  exact⟨.inr rfl,_,kr,_,_,s8.frz.1,hm0.tr s8.frz.2,_,_,rfl,.inl ⟨rfl,_,cs,rfl,⟨g,bG _ _ _,hcs.mono s8.frz.2⟩,hS⟩⟩
 ·refine aP 1 (ov 50 (uT 4 0) (aj (iT (ah 3 (rt ?_)))))
  exact⟨.inr rfl,_,kr,W,_,s7,hm0,_,_,rfl,.inr ⟨rfl,rfl,hun⟩⟩
theorem AW{X:Heap}{n:Nat}{b k N esi:Nat}(cs:List (List Nat))(h1:1≤k)(h8:k≤8)(hp:gc k esi)(he:esi<16777216)(hB:jT X b k N cs)(hcs:Mx (lK k) N cs)(hN0:0<N)(hN:N≤64)(ht:ap X n):af 26 [vf (.ptr (b) (0)),vi esi] X n fun v X'=>∃g,v=.tup [.f g,.f (.int .i64 0)]∧aB X' g (a9 N (cO k esi) cs):=by
 refine af.of_to kr ?_
 have s0:=aa.ini ht
 have hm0:ab X X:=ab.rfl
 obtain⟨pf,hb,hc⟩:=hB
 refine ah 2 (aP 4 (ov 10 (lF esi 0) (go 3 (ov 14 (hF esi 16777216) (ae 1 (ar (nx (sq (To.draw [0,1,2,3,4,5,6,7,8,9,10,11,12,13,14,15,16,17,18,19] cX kr kr (Sd.go (L:=[3,4,5,6,7,8,9,10,11,12,13,14,15,16,17,18,19]) [0,1,2] kr (Sd.read (some 19) (b) kr kr kr trivial (aG (off:=0) (sz:=3) (c:=[iN k,iN (sK k),.int .i64 2]) (s0.mono _ _ hb) sm rfl kr) (Sd.go (L:=[7,8,9,10,11,12,13,14,15,16,17,18,19]) [4,5,6] kr (Sd.read (some 23) (b) kr kr kr trivial (am (off:=3) (x:=.int .i64 0) (s0.mono _ _ hb) kr kr) (Sd.go (L:=[11,12,13,14,15,16,17,18,19]) [8,9,10] kr (Sd.read (some 27) (b) kr kr kr trivial (am (off:=4) (x:=iN N) (s0.mono _ _ hb) kr kr) (Sd.go (L:=[15,16,17,18,19]) [12,13,14] kr (Sd.read (some 31) (b) kr kr kr trivial (am (off:=5) (x:=pf) (s0.mono _ _ hb) kr kr) (Sd.go (L:=[17,18,19]) [16] kr ?_))))))))))))))))))
 obtain⟨_,W,_,hc83,hm84,ht85,⟨g,rfl,hg⟩⟩:=(wc cs h1 h8 hp hc hcs hN0 hN s0.topX:af 48 [.u (.agg [iN k,iN (sK k),.int .i64 2]),vf (.int .i64 0),vi N,vf (pf),vi esi] X (n) _)
 obtain⟨_,hc87,s⟩:=s0.call hc83 hm84 ht85
 have hm0:=hm0.tr hm84
 refine Sd.eff (some 33) kr kr (b_ kr hc87 kr) ⟨.inl kr,.inl kr,.inl kr,.inl kr,trivial⟩ (Sd.go (L:=[]) [18,19] kr (Sd.done ?_))
 show To Tryz.prog 26 [1,1,1] _ _ _ _
 refine rt ?_
 exact⟨.inr rfl,_,kr,W,_,s,hm0,_,rfl,hg⟩
/-- a shape that is small -/
structure b7(B N M:Nat):Prop where
 b1:1≤B
 b2:B≤60
 n1:1≤N
 n2:N≤20
 m1:1≤M
 m2:M≤8
def qv(a b:Nat):Nat:=(a-1)/b+1
def bn(B N:Nat):Nat:=qv B N
def gz(s M:Nat):Nat:=qv s M
def kN(s M b:Nat):Nat:=if b<s%gz s M then s/gz s M+1 else s/gz s M
def cM(s M:Nat):Nat→Nat
 |0=>0
 |b+1=>cM s M b+kN s M b
theorem GB:(List.range 61).all (fun s=>Nat.beq s 0 || (List.range 9).all (fun M=>Nat.beq M 0 || (Nat.ble (gz s M) s&&Nat.beq (cM s M (gz s M)) s&&(List.range (gz s M)).all (fun b=>Nat.ble 1 (kN s M b)&&Nat.ble (kN s M b) 8))))=true:=by kernel_rfl
section
variable {B N M:Nat}
abbrev blkS(B N M:Nat):Nat:=gz (bn B N) M
abbrev kS(B N M b:Nat):Nat:=kN (bn B N) M b
theorem fQ(h:b7 B N M):1≤bn B N∧bn B N≤60∧B≤bn B N*N:=by
 obtain⟨h1,h2,h3,h4,h5,h6⟩:=h
 have e:=Nat.div_add_mod (B-1) N
 have e2:=Nat.mod_lt (B-1) (show 0<N by omega)
 have e3:(B-1)/N≤B-1:=Nat.div_le_self _ _
 refine⟨Nat.le_add_left _ _,by show(B-1)/N+1≤60;omega,?_⟩
 unfold bn qv
 rw[Nat.add_mul,Nat.mul_comm]
 omega
theorem dq(h:b7 B N M):blkS B N M≤bn B N∧cM (bn B N) M (blkS B N M)=bn B N∧∀b,b<blkS B N M→1≤kS B N M b∧kS B N M b≤8:=by
 obtain⟨g1,g2,_⟩:=fQ h
 have h1:=GB
 rw[List.all_eq_true]at h1
 have h2:=h1 (bn B N) (List.mem_range.2 om)
 rw[Bool.or_eq_true]at h2
 rcases h2 with h2 | h2
 ·have:=Nat.eq_of_beq_eq_true h2;omega
 rw[List.all_eq_true]at h2
 have h3:=h2 M (List.mem_range.2 (by have:=h.m2;omega))
 rw[Bool.or_eq_true]at h3
 rcases h3 with h3 | h3
 ·have:=Nat.eq_of_beq_eq_true h3;have:=h.m1;omega
 simp only[Bool.and_eq_true]at h3
 obtain⟨⟨a1,a2⟩,a3⟩:=h3
 refine⟨Nat.le_of_ble_eq_true a1,Nat.eq_of_beq_eq_true a2,fun b hb=>?_⟩
 rw[List.all_eq_true]at a3
 have:=a3 b (List.mem_range.2 hb)
 rw[Bool.and_eq_true]at this
 exact⟨Nat.le_of_ble_eq_true this.1,Nat.le_of_ble_eq_true this.2⟩
theorem iB(h:b7 B N M):1≤blkS B N M∧blkS B N M≤60:=⟨Nat.le_add_left _ _,by have:=(dq h).1;have:=(fQ h).2.1;omega⟩
end
theorem qN{X:Heap}{n:Nat}{a:Nat}{m:Int}(h1:1≤a)(h2:(a:Int)≤m)(ht:ap X n):af 49 [vi a,vf (.int .i64 (m))] X n fun v X'=>v=vf (.bool true):=by
 refine af.of_to kr ?_
 have s0:=aa.ini ht
 have hm0:ab X X:=ab.rfl
 refine ah 1 (ai 1 (ov 6 (hT a 1) (go 3 (ov 10 (au (sC .i64 (x:=((a:Nat):Int)) (y:=(m)) om)) (ax 2 ?_)))))
 exact⟨.inr rfl,_,kr,X,_,s0,hm0,rfl⟩
theorem kJ{X:Heap}{n:Nat}{B N M:Nat}(h:b7 B N M)(ht:ap X n):af 27 [.u (.agg [iN B,iN N,iN M])] X n fun v X'=>v=vf (.bool true):=by
 refine af.of_to kr ?_
 have s0:=aa.ini ht
 have hm0:ab X X:=ab.rfl
 obtain⟨hb1,hb2,hn1,hn2,hm1,hm2⟩:=h
 refine ag ?_
 obtain⟨H1,s2,J3⟩:=cu s0 (.cells [iN B,iN N,iN M] true)
 refine ov 1 (J3 _ _ (vf (.ptr (n) (0)))) (ae 1 (ai 1 (ov 4 (am (off:=0) (x:=iN B) (s2.at 0 rfl) kr) ?_)))
 obtain⟨_,X4,n5,hc6,hm7,ht8,rfl⟩:=(qN (m:=4000) hb1 om s2.topX:af 49 [vi B,vf (.int .i64 4000)] X (n+1) _)
 obtain⟨H9,hc10,s⟩:=s2.call hc6 hm7 ht8
 have hm0:=hm0.tr hm7
 refine ov 5 (jC hc10) (go 2 (ov 8 (am (off:=1) (x:=iN N) (s.at 0 rfl) kr) ?_))
 obtain⟨_,W,n1,hc14,hm15,ht16,rfl⟩:=(qN (m:=64) hn1 om s.topX:af 49 [vi N,vf (.int .i64 64)] X4 (n5) _)
 obtain⟨_,hc18,s⟩:=s.call hc14 hm15 ht16
 have hm0:=hm0.tr hm15
 refine ov 9 (jC hc18) (go 3 (ov 13 (am (off:=2) (x:=iN M) (s.at 0 rfl) kr) ?_))
 obtain⟨_,W,_,hc22,hm23,ht24,rfl⟩:=(qN (m:=40) hm1 om s.topX:af 49 [vi M,vf (.int .i64 40)] W (n1) _)
 obtain⟨_,hc26,s⟩:=s.call hc22 hm23 ht24
 have hm0:=hm0.tr hm23
 refine ov 14 (jC hc26) (ax 2 ?_)
 exact⟨.inr rfl,_,kr,W,_,s,hm0,rfl⟩
theorem xS{X:Heap}{n:Nat}{a b:Nat}(h1:1≤a)(h2:1≤b)(h3:a<1000000)(ht:ap X n):af 28 [vi a,vi b] X n fun v X'=>v=vi (qv a b):=by
 refine af.of_to kr ?_
 have s0:=aa.ini ht
 have hm0:ab X X:=ab.rfl
 have hq:(a-1)/b≤a-1:=Nat.div_le_self _ _
 refine ah 1 (ai 1 (ov 6 (sN a 1) (go 1 (ov 8 (au (pC ((a)-1) (b) om om)) (ov 9 (aN (((a)-1)/(b)) 1) (ax 1 ?_))))))
 exact⟨.inr rfl,_,kr,X,_,s0,hm0,rfl⟩
theorem uj{X:Heap}{n:Nat}{B N M:Nat}(h:b7 B N M)(ht:ap X n):af 29 [.u (.agg [iN B,iN N,iN M])] X n fun v X'=>v=vi (bn B N):=by
 refine af.of_to kr ?_
 have s0:=aa.ini ht
 have hm0:ab X X:=ab.rfl
 refine ag ?_
 obtain⟨_,s,J⟩:=cu s0 (.cells [iN B,iN N,iN M] true)
 refine ov 1 (J _ _ (vf (.ptr (n) (0)))) (ae 1 (sq (ag (ov 3 (la 0 3 [iN B,iN N,iN M] (s.at 0 rfl)) ?_))))
 obtain⟨_,W,n2,hc33,hm34,ht35,rfl⟩:=(kJ h s.topX:af 27 [.u (.agg [iN B,iN N,iN M])] X (n+1) _)
 obtain⟨_,hc37,s⟩:=s.call hc33 hm34 ht35
 have hm0:=hm0.tr hm34
 refine ov 4 (jC hc37) (ae 1 (ar (nx (ai 1 (ov 7 (am (off:=0) (x:=iN B) (s.at 0 rfl) kr) (go 1 (ov 9 (am (off:=1) (x:=iN N) (s.at 0 rfl) kr) ?_)))))))
 obtain⟨_,W,_,hc41,hm42,ht43,rfl⟩:=(xS h.b1 h.n1 (by have:=h.b2;omega) s.topX:af 28 [vi B,vi N] W (n2) _)
 obtain⟨_,hc45,s⟩:=s.call hc41 hm42 ht43
 have hm0:=hm0.tr hm42
 refine ov 10 (jC hc45) (ax 1 ?_)
 exact⟨.inr rfl,_,kr,W,_,s,hm0,rfl⟩
theorem md{X:Heap}{n:Nat}{B N M:Nat}(h:b7 B N M)(ht:ap X n):af 10 [.u (.agg [iN B,iN N,iN M])] X n fun v X'=>v=vi (blkS B N M):=by
 refine af.of_to kr ?_
 have s0:=aa.ini ht
 have hm0:ab X X:=ab.rfl
 refine ag ?_
 obtain⟨_,s,J⟩:=cu s0 (.cells [iN B,iN N,iN M] true)
 refine ov 1 (J _ _ (vf (.ptr (n) (0)))) (ae 1 (sq (ag (ov 3 (la 0 3 [iN B,iN N,iN M] (s.at 0 rfl)) ?_))))
 obtain⟨_,W,n1,hc52,hm53,ht54,rfl⟩:=(kJ h s.topX:af 27 [.u (.agg [iN B,iN N,iN M])] X (n+1) _)
 obtain⟨_,hc56,s1⟩:=s.call hc52 hm53 ht54
 have hm0:=hm0.tr hm53
 refine ov 4 (jC hc56) (ae 1 (ar (nx (sq (To.draw [0,1,2,3,4,5] cX kr kr (Sd.read (some 6) (n) kr kr kr trivial (aG (off:=0) (sz:=3) (c:=[iN B,iN N,iN M]) (s1.at 0 rfl) sm rfl kr) ?_))))))
 obtain⟨_,W,n2,hc60,hm61,ht62,rfl⟩:=(uj h s1.topX:af 29 [.u (.agg [iN B,iN N,iN M])] W (n1) _)
 obtain⟨_,hc64,s2⟩:=s1.call hc60 hm61 ht62
 have hm0:=hm0.tr hm61
 refine Sd.eff (some 7) kr kr (b_ kr hc64 kr) ⟨.inl kr,trivial⟩ (Sd.go (L:=[3,4,5]) [2] kr (Sd.read (some 9) (n) kr kr kr ⟨ke (s1.at 0 rfl) (s2.at 0 rfl),trivial⟩ (am (off:=2) (x:=iN M) (s2.at 0 rfl) kr kr) ?_))
 obtain⟨_,W,_,hc68,hm69,ht70,rfl⟩:=(xS (fQ h).1 h.m1 (by have:=(fQ h).2.1;omega) s2.topX:af 28 [vi (bn B N),vi M] W (n2) _)
 obtain⟨_,hc72,s3⟩:=s2.call hc68 hm69 ht70
 have hm0:=hm0.tr hm69
 refine Sd.eff (some 10) kr kr (b_ kr hc72 kr) ⟨.inl kr,.inl kr,trivial⟩ (Sd.go (L:=[]) [5] kr (Sd.done ?_))
 show To Tryz.prog 10 [1,1,1] _ _ _ _
 refine rt ?_
 exact⟨.inr rfl,_,kr,W,_,s3,hm0,rfl⟩
theorem sL{X:Heap}{n:Nat}{B N M b:Nat}(h:b7 B N M)(hb:b<blkS B N M)(ht:ap X n):af 11 [.u (.agg [iN B,iN N,iN M]),vi b] X n fun v X'=>v=vi (kS B N M b):=by
 refine af.of_to kr ?_
 have s0:=aa.ini ht
 have hm0:ab X X:=ab.rfl
 have hbp:=iB h
 have hsl:=fQ h
 have hdv:bn B N/blkS B N M≤bn B N:=Nat.div_le_self _ _
 refine ag ?_
 obtain⟨_,s,J⟩:=cu s0 (.cells [iN B,iN N,iN M] true)
 refine ov 2 (J _ _ (vf (.ptr (n) (0)))) (ae 1 (ag (ov 7 (la 0 3 [iN B,iN N,iN M] (s.at 0 rfl)) ?_)))
 obtain⟨_,W,n1,hc79,hm80,ht81,rfl⟩:=(md h s.topX:af 10 [.u (.agg [iN B,iN N,iN M])] X (n+1) _)
 obtain⟨_,hc83,s⟩:=s.call hc79 hm80 ht81
 have hm0:=hm0.tr hm80
 refine ov 8 (jC hc83) (ae 1 (aP 1 (ov 10 (lF b 0) (go 3 (ov 14 (hF b (blkS B N M)) (ae 1 (ar (nx (ag (ov 16 (la 0 3 [iN B,iN N,iN M] (s.at 0 rfl)) ?_))))))))))
 obtain⟨_,W,_,hc87,hm88,ht89,rfl⟩:=(uj h s.topX:af 29 [.u (.agg [iN B,iN N,iN M])] W (n1) _)
 obtain⟨_,hc91,s⟩:=s.call hc87 hm88 ht89
 have hm0:=hm0.tr hm88
 refine ov 17 (jC hc91) ?_
 rcases Nat.lt_or_ge b (bn B N%blkS B N M)with hc | hc
 ·refine ae 1 (aP 3 (ov 21 (au (px (bn B N) (blkS B N M) om)) (ov 22 (lT b ((bn B N)%(blkS B N M))) (aj (iT (ai 2 (ov 25 (au (pC (bn B N) (blkS B N M) om om)) (ov 26 (aN ((bn B N)/(blkS B N M)) 1) (ax 1 ?_)))))))))
  exact⟨.inr rfl,_,kr,W,_,s,hm0,by show _=vi (if b<bn B N%gz (bn B N) M then _ else _);rw[if_pos hc]⟩
 ·refine ae 1 (aP 3 (ov 21 (au (px (bn B N) (blkS B N M) om)) (ov 22 (lF b ((bn B N)%(blkS B N M))) (aj (ar (nx (ai 2 (ov 29 (au (pC (bn B N) (blkS B N M) om om)) (ax 1 ?_)))))))))
  exact⟨.inr rfl,_,kr,W,_,s,hm0,by show _=vi (if b<bn B N%gz (bn B N) M then _ else _);rw[if_neg (by show¬b<bn B N%blkS B N M;omega)]⟩
theorem ve:∀{vs:List Value} {l:List F} (n:Nat),cY vs=some l→cY (vs.take n)=some (l.take n)
 |[],l,n,h=>by simp only[cY]at h;cases h;simp[cY]
 |v::vs,l,0,h=>by simp[cY]
 |v::vs,l,n+1,h=>by
  unfold cY at h
  split at h
  ·rename_i heq;cases heq
  ·rename_i k m r heq
   cases heq
   split at h
   ·rename_i l' hl
    cases h
    simp only[List.take_succ_cons,cY,ve n hl]
   ·cases h
  ·cases h
theorem vv:∀{vs:List Value} {l:List F} (n:Nat),cY vs=some l→cY (vs.drop n)=some (l.drop n)
 |[],l,n,h=>by simp only[cY]at h;cases h;simp[cY]
 |v::vs,l,0,h=>by simpa using h
 |v::vs,l,n+1,h=>by
  unfold cY at h
  split at h
  ·rename_i heq;cases heq
  ·rename_i k m r heq
   cases heq
   split at h
   ·rename_i l' hl
    cases h
    simpa using vv n hl
   ·cases h
  ·cases h
theorem Es{H:Heap}{id off len l h:Nat}{cap cap':Option Nat}{cs:List F}(hr:aF H 1 (.sl id off 1 len cap)=some cs)(hlh:l≤h)(hh:h≤len):aF H 1 (.sl id (off+l*1) 1 (h-l) cap')=some ((cs.take h).drop l):=by
 simp only[aF,if_true,Nat.mul_one]at hr⊢
 split at hr
 ·rename_i all ex h2
  split at hr
  ·rename_i h3
   cases hr
   rw[if_pos om]
   congr 1
   rw[List.take_take,Nat.min_eq_left hh,List.drop_take,List.drop_drop]
  ·cases hr
 ·rename_i rcs elem fz h2
  split at hr
  ·rename_i h3
   rw[if_pos om]
   have:=vv l (ve h hr)
   rw[List.take_take,Nat.min_eq_left hh,List.drop_take,List.drop_drop]at this
   exact this
  ·cases hr
 ·cases hr
theorem rj{H:Heap}{id off len:Nat}{cap:Option Nat}{cs:List F}(hr:aF H 1 (.sl id off 1 len cap)=some cs):∃L,(H id).bind gj=some L∧off+len≤L:=by
 simp only[aF,if_true,Nat.mul_one]at hr
 split at hr
 ·rename_i all ex h2
  split at hr
  ·exact⟨_,by rw[h2];rfl,by assumption⟩
  ·cases hr
 ·rename_i rcs elem fz h2
  split at hr
  ·exact⟨_,by rw[h2];rfl,by assumption⟩
  ·cases hr
 ·cases hr
theorem aB.cut{H:Heap}{id off len l h:Nat}{cap cap':Option Nat}{r:List Nat}(hr:aB H (.sl id off 1 len cap) r)(hlh:l≤h)(hh:h≤len):aB H (.sl id (off+l*1) 1 (h-l) cap') ((r.take h).drop l):=by
 refine⟨?_,fun x hx=>hr.2.1 x (List.mem_of_mem_take (List.mem_of_mem_drop hx)),by have:=hr.2.2;simp;omega⟩
 rw[Es hr.1 hlh hh]
 unfold bs
 rw[List.map_drop,List.map_take]
def eO(f:F):Prop:=match f with | .sl _ _ _ len (some c)=>len≤c | _=>True
/-- a list of things -/
def zI{α:Type}(R:Heap→F→α→Prop)(X:Heap)(f:F)(l:List α):Prop:=∃fs,aF X 1 f=some fs∧aw (R X) fs l
/-- a symbol of an object that is cut -/
def j5(data:List Nat)(N t:Nat):List Nat:=cE N [(data.drop (t*N)).take N]
def eU(data:List Nat)(N s M b:Nat):List (List Nat):=(List.range (kN s M b)).map fun q=>j5 data N (cM s M b+q)
def jm(data:List Nat)(N s M:Nat):List (List (List Nat)):=(List.range (gz s M)).map (eU data N s M)
theorem mg{α:Type}(f:Nat→α)(n:Nat):(List.range (n+1)).map f=(List.range n).map f++[f n]:=by rw[List.range_succ,List.map_append];rfl
theorem El{data:List Nat}{N t:Nat}:((data.drop (t*N)).take (min N (data.drop (t*N)).length)).drop 0=(data.drop (t*N)).take N:=by
 rw[List.drop_zero,List.take_eq_take_iff]
 omega
theorem wS{data:List Nat}{N t:Nat}:((data.drop (t*N)).take (data.drop (t*N)).length).drop (min N (data.drop (t*N)).length)=data.drop ((t+1)*N):=by
 rw[List.take_length,List.drop_drop,Nat.add_mul,Nat.one_mul]
 rcases Nat.le_total N (data.drop (t*N)).length with h | h
 ·rw[Nat.min_eq_left h]
 ·rw[Nat.min_eq_right h,List.drop_of_length_le (by simp;omega),List.drop_of_length_le (by simp at h;omega)]
theorem v8{X H:Heap}{id L:Nat}(hm:ab X H)(h:(X id).bind gj=some L):(H id).bind gj=some L:=by
 cases hx:X id with
 |none=>rw[hx]at h;cases h
 |some o=>rw[hm _ _ hx];rw[hx]at h;exact h
theorem E6{X:Heap}{n:Nat}{B N M:Nat}{fd:F}(data:List Nat)(h:b7 B N M)(hd:aB X fd data)(hB:data.length=B)(hcp:eO fd)(ht:ap X n):af 24 [.u (.agg [iN B,iN N,iN M]),vf (fd)] X n fun v X'=>∃g,v=.tup [.f g,.f (.int .i64 0)]∧zI bJ X' g (jm data N (bn B N) M):=by
 refine af.of_to kr ?_
 have s0:=aa.ini ht
 have hm0:ab X X:=ab.rfl
 have hbp:=iB h
 obtain⟨hb1,hb2,hn1,hn2,hm1,hm2⟩:=id h
 refine ag ?_
 obtain⟨H1,s2,J3⟩:=cu s0 (.cells [iN B,iN N,iN M] true)
 refine ov 2 (J3 _ _ (vf (.ptr (n) (0)))) (ae 2 (aD 0 (ag (ov 11 (la 0 3 [iN B,iN N,iN M] (s2.at 0 rfl)) ?_))))
 obtain⟨_,X4,n5,hc6,hm7,ht8,rfl⟩:=(kJ h s2.topX:af 27 [.u (.agg [iN B,iN N,iN M])] X (n+1) _)
 obtain⟨H9,hc10,s⟩:=s2.call hc6 hm7 ht8
 have hm0:=hm0.tr hm7
 have hd:=hd.mono hm7
 refine ov 12 (jC hc10) (ae 2 (iF (ai 1 (ov 16 (lv data.length hd.lenA) (go 1 (ov 18 (am (off:=0) (x:=iN B) (s.at 0 rfl) kr) (ov 19 (uF data.length B) (ae 1 (ar (nx (ah 1 (sq (ag (ov 20 (la 0 3 [iN B,iN N,iN M] (s.at 0 rfl)) ?_))))))))))))))
 obtain⟨_,W,_,hc14,hm15,ht16,rfl⟩:=(md h s.topX:af 10 [.u (.agg [iN B,iN N,iN M])] X4 (n5) _)
 obtain⟨_,hc18,s⟩:=s.call hc14 hm15 ht16
 have hm0:=hm0.tr hm15
 have hd:=hd.mono hm15
 refine ov 21 (jC hc18) ?_
 obtain⟨did,off0,cap0,rfl,_⟩:=hd.sl om
 have hd0:aB W (.sl did off0 1 data.length cap0) (data.drop (cM (bn B N) M 0*N)):=by rw[show cM (bn B N) M 0=0 from rfl,Nat.zero_mul,List.drop_zero];exact hd
 have hdl0:data.length=(data.drop (cM (bn B N) M 0*N)).length:=by rw[show cM (bn B N) M 0=0 from rfl,Nat.zero_mul,List.drop_zero]
 have hcap0:∀c,cap0=some c→data.length≤c:=fun c hc=>by subst hc;exact hcp
 refine ae 1 (bk 1 (To.loop kr (aC.for (blkS B N M) (fun b A Hq nq=>∃(Y:Heap) (a:F) (fs:List F) (off:Nat) (len:Nat) (cap:Option Nat),aL A [(1,vf (.sl (did) (off) 1 (len) cap)),(2,vf (.ptr (n) (0))),(6,vf (a)),(21,vi (blkS B N M)),(22,vi b)]∧aa Y Hq nq ([(n,.cells [iN B,iN N,iN M] true)]++(a_ (a) (fs)++[]))∧(ab X Y)∧(bO 1 a fs)∧(aw (bJ Y) fs ((List.range b).map (eU data N (bn B N) M)))∧(aB Y (.sl did off 1 len cap) (data.drop (cM (bn B N) M b*N)))∧(len=(data.drop (cM (bn B N) M b*N)).length)∧(∀c,cap=some c→len≤c)) ⟨W,.sl0,[],_,_,_,az (ts:=[1,2,6,21,22]) kr,s,(hm0),(bO.nil 1),(trivial),(hd0),(hdl0),(hcap0)⟩ (fun b A H n1 hi hI=>?_) (fun A H n1 hI=>?_))))
 ·obtain⟨Y,a,fs,off,len,cap,hT,s,hm0,ha,hA,hd,hdl,hcap⟩:=hI
  refine To.keep _ ?_ hT.sub
  have hkb:=(dq h).2.2 b hi
  refine ag (ov 23 (lT b (blkS B N M)) (aQ (aM (nx (aD 2 (ah 2 (ah 1 (sq (ag (ov 25 (la 0 3 [iN B,iN N,iN M] (s.at 0 rfl)) (go 1 ?_)))))))))))
  obtain⟨_,W,_,hc25,hm26,ht27,rfl⟩:=(sL h hi s.topX:af 11 [.u (.agg [iN B,iN N,iN M]),vi b] Y (n1) _)
  obtain⟨_,hc29,s⟩:=s.call hc25 hm26 ht27
  have hm0:=hm0.tr hm26
  have hd:=hd.mono hm26
  have hA:=hA.mono fun _ _ q=>q.mono hm26
  refine ov 27 (jC hc29) (ae 1 (bk 3 (To.loop kr (aC.for (kS B N M b) (fun q A Hq nq=>∃(Y:Heap) (a2:F) (fs2:List F) (off:Nat) (len:Nat) (cap:Option Nat),aL A [(1,vf (.sl (did) (off) 1 (len) cap)),(2,vf (.ptr (n) (0))),(6,vf (a)),(8,vf (a2)),(21,vi (blkS B N M)),(22,vi b),(27,vi (kS B N M b)),(28,vi q)]∧aa Y Hq nq ([(n,.cells [iN B,iN N,iN M] true)]++(a_ (a) (fs)++(a_ (a2) (fs2)++[])))∧(ab X Y)∧(aw (bJ Y) fs ((List.range b).map (eU data N (bn B N) M)))∧(bO 1 a2 fs2)∧(aw (aB Y) fs2 ((List.range q).map fun q=>j5 data N (cM (bn B N) M b+q)))∧(aB Y (.sl did off 1 len cap) (data.drop ((cM (bn B N) M b+q)*N)))∧(len=(data.drop ((cM (bn B N) M b+q)*N)).length)∧(∀c,cap=some c→len≤c)) ⟨W,.sl0,[],_,_,_,az (ts:=[1,2,6,8,21,22,27,28]) kr,s,(hm0),(hA),(bO.nil 1),(trivial),(hd),(hdl),(hcap)⟩ (fun q A H n2 hi hI=>?_) (fun A H n2 hI=>?_)))))
  ·obtain⟨Y,a2,fs2,off,len,cap,hT,s,hm0,hA,ha2,hA2,hd,hdl,hcap⟩:=hI
   refine To.keep _ ?_ hT.sub
   have hl2:=hA2.length
   rw[List.length_map,List.length_range]at hl2
   obtain⟨Ld,hL1,hL2⟩:=rj hd.1
   refine ag (ov 29 (lT q (kS B N M b)) (aQ (aM (nx (aD 4 (ai 1 (ov 31 (am (off:=1) (x:=iN N) (s.at 0 rfl) kr) (go 1 (ov 33 (ln len) (ov 34 (dR (mx:=false) (x:=((N:Nat):Int)) (y:=((len:Nat):Int)) (z:=((min N len:Nat):Int)) (by simp only[Bool.false_eq_true,if_false]; split<;>omega) kr) (ae 1 (sq (To.draw [1,2,3,4,5,6,0,7,8,9] cX kr kr (Sd.go (L:=[2,3,4,5,6,0,7,8,9]) [1] kr (Sd.read (some 37) (n) kr kr kr trivial (am (off:=1) (x:=iN N) (s.at 0 rfl) kr kr) (Sd.go (L:=[5,6,0,7,8,9]) [3,4] kr (Sd.read (some 40) (did) kr kr kr trivial (c7 (id:=did) (off:=off) (sz:=1) (len:=len) (cap:=cap) (lo:=none) (hi:=some (min N len)) (L:=Ld) (l:=0) (h:=min N len) (v8 s.mono hL1) rfl rfl om om (fun c hc=>by have:=hcap c hc;omega) om kr) ?_)))))))))))))))))
   obtain⟨_,_,n3,hc36,hm37,ht38,⟨g,rfl,hg⟩⟩:=(ww (N:=N) _ (hd.cut (cap':=cap.map (· - 0)) (l:=0) (h:=min N len) om om) om s.topX:af 41 [vi N,vf (.sl (did) (off+0*1) 1 (min N len-0) (cap.map (· - 0)))] Y (n2) _)
   obtain⟨_,hc40,s⟩:=s.call hc36 hm37 ht38
   have hm0:=hm0.tr hm37
   have hd:=hd.mono hm37
   have hA2:=hA2.mono fun _ _ q=>q.mono hm37
   have hA:=hA.mono fun _ _ q=>q.mono hm37
   refine Sd.eff (some 41) kr kr (b_ kr hc40 kr) ⟨.inl kr,.inl kr,trivial⟩ (Sd.go (L:=[7,8,9]) [0] kr ?_)
   obtain⟨W,_,s,m,f1,J⟩:=bj s (.cells [g] true)
   have hm0:=hm0.tr m
   have hd:=hd.mono m
   have hA2:=hA2.mono fun _ _ q=>q.mono m
   have hA:=hA.mono fun _ _ q=>q.mono m
   have hg:=hg.mono m
   refine Sd.eff (some 42) kr kr (J _ _ (vf (.sl (n3) (0) 1 (1) none)) kr) ⟨.inl kr,.inl kr,trivial⟩ ?_
   obtain⟨a1,H,n4,ha51,s,J⟩:=eW (sz:=1) (bytes:=24) (x:=.sl (n3) (0) 1 (1) none) (fs:=fs2) (new:=[g]) (M1:=([(n,.cells [iN B,iN N,iN M] true)]++a_ (a) (fs))) (M2:=[]) (by simpa using s) ha2 (bf (s.mono _ _ f1) rfl) (rfl) om om
   have s:aa W H n4 ([(n,.cells [iN B,iN N,iN M] true)]++(a_ (a) (fs)++(a_ (a1) ((fs2++[g]))++[]))):=by simpa using s
   refine Sd.eff (some 43) kr kr (J _ _ kr) ⟨.inl kr,.inl kr,trivial⟩ ?_
   obtain⟨Le,hL3,hL4⟩:=rj hd.1
   refine Sd.go (L:=[]) [9] kr (Sd.done ?_)
   show To Tryz.prog 24 [1,1,0,0,1,1,0,0,1,0,1,1,0,0,1,1,0,0,1,0,1,1,1] _ _ _ _
   refine rg (go 2 (ov 46 (c7 (id:=did) (off:=off) (sz:=1) (len:=len) (cap:=cap) (lo:=some (min N len)) (hi:=none) (L:=Le) (l:=min N len) (h:=len) (v8 s.mono hL3) rfl rfl om om (fun c hc=>by have:=hcap c hc;omega) om) (ae 1 (rg (ov 47 (aN q 1) (aR 1 ?_))))))
   exact .inl ⟨rfl,W,_,_,_,_,_,az (ts:=[1,2,6,8,21,22,27,28]) kr,s,(hm0),(hA),(ha51),(by rw[mg];rw[hdl,El]at hg;exact hA2.snoc hg),(by rw[←Nat.add_assoc,←wS,←hdl];exact hd.cut (cap':=cap.map (· - min N len)) om om),(by rw[←Nat.add_assoc,←wS,List.length_drop,List.length_take,←hdl];omega),(fun c hc=>by cases cap with | none=>cases hc | some c0=>(have:=hcap c0 rfl;simp at hc;omega))⟩
  ·obtain⟨Y,a2,fs2,off,len,cap,hT,s,hm0,hA,ha2,hA2,hd,hdl,hcap⟩:=hI
   refine To.keep _ ?_ hT.sub
   refine ag (ov 29 (au (cr .i64 (x:=(((kS B N M b):Nat):Int)) (y:=((kS B N M b:Nat):Int)) sm)) (aj ?_))
   obtain⟨W,m1,s,hrow2,_⟩:=aa.acc (sz:=1) (M1:=([(n,.cells [iN B,iN N,iN M] true)]++a_ (a) (fs))) (M2:=[]) (a:=a2) (fs:=fs2) (by simpa using s) ha2
   have hm0:=hm0.tr m1
   have hd:=hd.mono m1
   have hA2:=hA2.mono fun _ _ q=>q.mono m1
   have hA:=hA.mono fun _ _ q=>q.mono m1
   have s:aa W H (n2) ([(n,.cells [iN B,iN N,iN M] true)]++(a_ (a) (fs)++[])):=by simpa using s
   have hl:=hA.length
   rw[List.length_map,List.length_range]at hl
   refine sq (iF (To.exit 3 kr ?_))
   refine⟨sm,?_⟩
   show To Tryz.prog 24 [1,1,1,0,0,1,1,0,0,1,0,1,1,1] _ _ _ _
   refine rg (go 2 ?_)
   obtain⟨W,_,s,m2,f2,J⟩:=bj s (.cells [a2] true)
   have hm0:=hm0.tr m2
   have hd:=hd.mono m2
   have hA2:=hA2.mono fun _ _ q=>q.mono m2
   have hA:=hA.mono fun _ _ q=>q.mono m2
   have hrow2:=aO m2 hrow2
   refine ov 50 (J _ _ (vf (.sl (n2) (0) 1 (1) none))) ?_
   obtain⟨_,_,_,ha67,s,J⟩:=eW (sz:=1) (bytes:=24) (x:=.sl (n2) (0) 1 (1) none) (fs:=fs) (new:=[a2]) (M1:=[(n,.cells [iN B,iN N,iN M] true)]) (M2:=[]) s ha (bf (s.mono _ _ f2) rfl) (rfl) om om
   refine ov 51 (J _ _) (ae 1 (rg (ov 52 (aN b 1) (aR 1 ?_))))
   exact .inl ⟨rfl,W,_,_,_,_,_,az (ts:=[1,2,6,21,22]) kr,s,(hm0),(ha67),(by rw[mg];exact hA.snoc ⟨fs2,hrow2,hA2⟩),(hd),(hdl),(hcap)⟩
 ·obtain⟨Y,a,fs,off,len,cap,hT,s,hm0,ha,hA,hd,hdl,hcap⟩:=hI
  refine To.keep _ ?_ hT.sub
  refine ag (ov 23 (au (cr .i64 (x:=(((blkS B N M):Nat):Int)) (y:=((blkS B N M:Nat):Int)) sm)) (aj ?_))
  obtain⟨W,m3,s,hrow,_⟩:=aa.acc (sz:=1) (M1:=[(n,.cells [iN B,iN N,iN M] true)]) (M2:=[]) (a:=a) (fs:=fs) (by simpa using s) ha
  have hm0:=hm0.tr m3
  have hA:=hA.mono fun _ _ q=>q.mono m3
  have s:aa W H (n1) [(n,.cells [iN B,iN N,iN M] true)]:=by simpa using s
  refine sq (iF (To.exit 1 kr ?_))
  refine⟨sm,?_⟩
  show To Tryz.prog 24 [1,1,1,1] _ _ _ _
  refine ah 3 (rt ?_)
  exact⟨.inr rfl,_,kr,W,_,s,hm0,_,rfl,_,hrow,hA⟩
end Go.Proofs.YtkimkgbppegkhaaGreat.Cm
