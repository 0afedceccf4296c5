/- The clean machine's walks of stores (1): what is deleted from a list. · The clean machine's walks of stores (2): the log, what is kept, what is got. · The clean machine's walks of stores (3): what is got; tombstones. -/
import Derived.Test.YtkimkgbppegkhaaGreatLg
set_option linter.unusedVariables false
set_option linter.unusedSimpArgs false
namespace Go.Proofs.YtkimkgbppegkhaaGreat.Cm
open Go Go.RowKit Go.Proofs.YtkimkgbppegkhaaGreat.Gf
set_option maxRecDepth 1000000
theorem nI{α:Type}{l:List α}{p:α→Bool}{i:Nat}(h:∀j,j<i→(l[j]?).any p=false):(l.take i).filter (fun a=> !p a)=l.take i:=by
 rw[List.filter_eq_self]
 intro a ha
 obtain⟨j,hj,rfl⟩:=List.mem_iff_getElem.1 ha
 rw[List.length_take]at hj
 have:=h j om
 rw[List.getElem?_eq_getElem om]at this
 simpa using this
theorem qH{α:Type}{l:List α}{p:α→Bool}(h:∀j,j<l.length→(l[j]?).any p=false):l.filter (fun a=> !p a)=l:=by
 have:=nI (l:=l) (p:=p) (i:=l.length) h
 rwa [List.take_length]at this
theorem kE{cs:List F}{j len sz:Nat}(h:j+1≤len):(cs.drop (j*sz)).take sz=((cs.take (len*sz)).drop (j*sz)).take sz:=by
 have h1:(j+1)*sz≤len*sz:=Nat.mul_le_mul_right _ h
 rw[Nat.add_mul,Nat.one_mul]at h1
 rw[List.drop_take,List.take_take,Nat.min_eq_left om]
theorem rS{α:Type}{R:α→List F→Prop}{sz i len:Nat}{l:List α}{cs:List F}(h:aA R sz l (cs.take (len*sz)))(hi:i<len):aA R sz (l.take i) (cs.take (i*sz)):=by
 have key:∀(l:List α) (fs:List F) (i:Nat),aA R sz l fs→aA R sz (l.take i) (fs.take (i*sz)):=by
  intro l
  induction l with
  |nil=>intro fs i h;have h:fs=[]:=h;subst h;simp[aA]
  |cons a l ih=>
   intro fs i h
   obtain⟨c,r,rfl,h2,h3,h4⟩:=h
   cases i with
   |zero=>simp[aA]
   |succ i=>
    refine⟨c,r.take (i*sz),?_,h2,h3,ih r i h4⟩
    rw[Nat.add_mul,Nat.one_mul,List.take_append,List.take_of_length_le om,show i*sz+sz-c.length=i*sz by omega]
 have h1:i*sz≤len*sz:=Nat.mul_le_mul_right _ om
 have:=key l _ i h
 rwa [List.take_take,Nat.min_eq_left h1]at this
theorem rR{α:Type}{R:α→List F→Prop}{sz w j len:Nat}{k:List α}{a:α}{cs cs2 c:List F}(hw:w≤j)(hcl:c.length=sz)(hj:j+1≤len)(hl2:cs2.length=cs.length)(hpre:aA R sz k (cs2.take (w*sz)))(hR:R a c)(hsuf:cs2.drop (j*sz)=cs.drop (j*sz))(hl:len*sz≤cs.length):
 (aJ cs2 (w*sz) c).length=cs.length∧aA R sz (k++[a]) ((aJ cs2 (w*sz) c).take ((w+1)*sz))∧(aJ cs2 (w*sz) c).drop ((j+1)*sz)=cs.drop ((j+1)*sz):=by
 have h1:(j+1)*sz≤len*sz:=Nat.mul_le_mul_right _ hj
 have h2:w*sz≤j*sz:=Nat.mul_le_mul_right _ hw
 rw[Nat.add_mul,Nat.one_mul]at h1
 have h3:(cs2.take (w*sz)).length=w*sz:=by rw[List.length_take];omega
 refine⟨?_,?_,?_⟩
 ·simp only[aJ,List.length_append,List.length_drop,h3];omega
 ·rw[show(aJ cs2 (w*sz) c).take ((w+1)*sz)=cs2.take (w*sz)++c from List.take_left' (l₁:=cs2.take (w*sz)++c) (by rw[List.length_append,h3,Nat.add_mul];omega)]
  exact hpre.snoc hR hcl
 ·have e:(aJ cs2 (w*sz) c).drop ((j+1)*sz)=cs2.drop ((j+1)*sz):=by
   simp only[aJ]
   rw[List.drop_append,List.drop_of_length_le (by rw[List.length_append,h3,Nat.add_mul];omega),List.nil_append,List.drop_drop,List.length_append,h3,Nat.add_mul]
   congr 1
   omega
  rw[e,Nat.add_mul,←List.drop_drop,←List.drop_drop,hsuf]
theorem tF{α:Type}{R:α→List F→Prop}:∀{l:List α} {fs:List F} {i:Nat} {x:F},aA R 1 l fs→fs[i]?=some x→∃a,l[i]?=some a∧R a [x]
 |[],fs,i,x,H,h=>by have H:fs=[]:=H;subst H;simp at h
 |a::l,fs,0,x,H,h=>by
  obtain⟨c,r,rfl,h2,h3,_⟩:=H
  obtain⟨y,rfl⟩:=List.length_eq_one_iff.1 h2
  simp at h;subst h
  exact⟨a,rfl,h3⟩
 |a::l,fs,i+1,x,H,h=>by
  obtain⟨c,r,rfl,h2,h3,h4⟩:=H
  obtain⟨y,rfl⟩:=List.length_eq_one_iff.1 h2
  obtain⟨b,g1,g2⟩:=tF h4 (i:=i) (x:=x) (by simpa using h)
  exact⟨b,by simpa using g1,g2⟩
theorem Cb{X:Heap}{n:Nat}{k len:Nat}{cs:List F}{ex:Bool}{g:Nat}{caps:List F}{l:List Rg}(p:Rg→Bool)(hlt:l.length<100000)(hgo:bX Tryz.prog g=true)(hg:∀a∈l,∀c Y m,aV Y a c→ab X Y→ap Y m→af g ([.u (.agg c)]++caps.map fun x=>.u (.f x)) Y m fun v _=>v=vf (.bool (p a)))(hl:len*10≤cs.length)(hc:aA (aV X) 10 l (cs.take (len*10))):al 118 [vf (.sl (k) (0) 10 (len) none),.u (.fn g caps)] X n (cat [[(k,.cells (cs) ex)]]) fun v X' P'=>∃f2 fs2,v=vf f2∧av 10 f2 fs2 P'∧aA (aV X') 10 (l.filter fun a=> !p a) fs2:=by
 refine al.of_to (Ps:=[[(k,.cells (cs) ex)]]) kr fun R H0 s0=>?_
 have hm0:ab X X:=ab.rfl
 have hlen:len=l.length:=by
  have:=hc.len
  rw[List.length_take]at this
  omega
 obtain⟨v,X2,n2,hcI,hmI,htI,hfi⟩:=((mB (X:=H0) (f:=.sl k 0 10 len none) (fun i=>(l[i]?).any p) (.inr ⟨k,0,none,cs,ex,by rw[hlen],s0.at 0 rfl,om,by rw[List.drop_zero,←hlen];exact hc.mono fun a c h=>aV.mono _ _ _ _ s0.mono h⟩) om hgo (fun i a ha c Y m hR hm ht=>(hg a (List.mem_of_getElem? ha) c Y m hR (s0.mono.tr hm) ht).imp fun v _ h=>by rw[h,ha];rfl) s0.top):af _ _ _ _ _)
 rcases hfi with⟨i,hi,hpI,hn,rfl⟩|⟨hn,rfl⟩
 ·refine ah 1 (ai 2 ?_)
  obtain⟨_,H1,n2,hc3,hm4,ht5,rfl⟩:=(af.same hcI hmI htI:af 166 [vf (.sl (k) (0) 10 (len) none),.u (.fn g caps)] H0 (n) _)
  have s6:=s0.callH hc3 hm4 ht5
  refine ov 10 (jC hc3) (ae 1 (aP 1 (ov 12 (au (jc .i64 (x:=((i:Nat):Int)) (y:=(-1:Int)) om)) (aj ?_))))
  have hi2:i<len:=by omega
  obtain⟨a0,ha0⟩:∃a,l[i]?=some a:=⟨_,List.getElem?_eq_getElem om⟩
  have hp0:p a0=true:=by simpa[ha0]using hpI
  have hall:(l.take i).filter (fun a=> !p a)=l.take i:=nI hn
  refine ar (nx (aP 1 (ov 15 (aN i 1) (ae 1 (bk 0 (lp (aC.for (len-(i+1)) (fun q A Hq nq=>∃(Y:Heap) (w:Nat) (cs2:List F),aL A [(0,vf (.sl (k) (0) 10 (len) none)),(1,.u (.fn g caps)),(5,vi w),(6,vi (i+1+q))]∧aa Y Hq nq (cat [[(k,.cells (cs2) ex)],R])∧(ab X Y)∧(((l.take (i+1+q)).filter fun a=> !p a).length=w)∧(cs2.length=cs.length)∧(aA (aV Y) 10 ((l.take (i+1+q)).filter fun a=> !p a) (cs2.take (w*10)))∧(cs2.drop ((i+1+q)*10)=cs.drop ((i+1+q)*10))∧(aA (aV Y) 10 l (cs.take (len*10)))) ⟨X,i,cs,az (ts:=[0,1,5,6]) kr,s6,(hm0),(by rw[show l.take (i+1+0)=l.take i++[a0]from bU ha0,List.filter_append,hall];simp[hp0];omega),(rfl),(by rw[show l.take (i+1+0)=l.take i++[a0]from bU ha0,List.filter_append,hall];simpa[hp0]using rS hc hi2),(rfl),(hc)⟩ (fun q A H7 n8 hi hI=>?_) (fun A H7 n8 hI=>?_))))))))
  ·obtain⟨Y,w,cs2,hT,s9,hm0,hw,hl2,hpre,hsuf,hc⟩:=hI
   refine To.keep _ ?_ hT.sub
   obtain⟨a,hx⟩:∃a,l[i+1+q]?=some a:=⟨_,List.getElem?_eq_getElem om⟩
   obtain⟨c,hc1,hcl,hR⟩:=hc.at hx
   have htk:l.take (i+1+(q+1))=l.take (i+1+q)++[a]:=bU hx
   have hcj:(cs2.drop ((i+1+q)*10)).take 10=c:=by rw[hsuf,←hc1];exact kE om
   have hwle:w≤i+1+q:=by rw[←hw];exact Nat.le_trans (List.length_filter_le _ _) (by rw[List.length_take];omega)
   refine aP 2 (ov 18 (ln len) (ov 19 (lT (i+1+q) len) (aj (aM (nx (aD 1 (ai 2 (ov 24 (ix k 0 10 len (i+1+q)) (ov 25 (aG (id:=k) (off:=0+(i+1+q)*10) (sz:=10) (c:=c) (s9.at 0 rfl) om (by rw[Nat.zero_add];exact hcj)) ?_)))))))))
   cases hp:p a
   ·obtain⟨_,s,J⟩:=ay s9 (.cells [.int .i64 0,.int .i64 0,.int .i64 0,.int .i64 0,.int .i64 0,.int .i64 0,.int .i64 0,.bool false,.int .i64 0,.sl0] true)
    refine ov 7 (J _ _ (vf (.ptr (n8) (0)))) ?_
    obtain⟨_,s,J⟩:=dv (sz:=10) (new:=c) s 0 rfl om rfl
    refine oe (J _ _) (aj (ai 1 (ov 27 (aG (off:=0) (sz:=10) (c:=c) (s.at 0 rfl) om (by rw[List.drop_zero,List.take_of_length_le om])) ?_)))
    obtain⟨_,W,_,_,m1,s,J,rfl⟩:=(((hg a (List.mem_of_getElem? hx) c _ _ hR hm0 s.topX).imp fun v _ h=>(h.trans (by rw[hp]):v=vf (.bool false))):af g ([.u (.agg (c))]++caps.map fun x=>.u (.f x)) Y (n8+1) _).on s
    have hm0:=hm0.tr m1
    have hpre:=hpre.mono fun _ _ h=>aV.mono _ _ _ _ m1 h
    have hc:=hc.mono fun _ _ h=>aV.mono _ _ _ _ m1 h
    have hR:=aV.mono _ _ _ _ m1 hR
    refine ov 28 (J _ _ kr hgo) (ae 1 (iT (ai 2 (ov 32 (aG (off:=0) (sz:=10) (c:=c) (s.at 0 rfl) om (by rw[List.drop_zero,List.take_of_length_le om])) (ov 33 (ix k 0 10 len w) ?_)))))
    obtain⟨_,s,J⟩:=nc (sz:=10) (off:=0+w*10) (new:=c) (cs':=aJ cs2 (w*10) c) s 1 rfl om om (by rw[Nat.zero_add])
    refine oe (J _ _) (aj ?_)
    obtain⟨hl3,hpre3,hsuf3⟩:=rR (sz:=10) (j:=i+1+q) (len:=len) hwle hcl om hl2 hpre hR hsuf om
    have s:=aa.tl s
    refine rg (go 1 (ov 35 (aN w 1) (ae 1 (rg (go 1 (ov 21 (aN (i+1+q) 1) (aR 1 ?_)))))))
    exact .inl ⟨rfl,W,w+1,_,az (ts:=[0,1,5,6]) kr,s,(hm0),(by rw[htk,List.filter_append,List.length_append,hw];simp[hp]),(hl3),(by rw[htk,List.filter_append];simpa[hp]using hpre3),(hsuf3),(hc)⟩
   ·obtain⟨_,s,J⟩:=ay s9 (.cells [.int .i64 0,.int .i64 0,.int .i64 0,.int .i64 0,.int .i64 0,.int .i64 0,.int .i64 0,.bool false,.int .i64 0,.sl0] true)
    refine ov 7 (J _ _ (vf (.ptr (n8) (0)))) ?_
    obtain⟨_,s,J⟩:=dv (sz:=10) (new:=c) s 0 rfl om rfl
    refine oe (J _ _) (aj (ai 1 (ov 27 (aG (off:=0) (sz:=10) (c:=c) (s.at 0 rfl) om (by rw[List.drop_zero,List.take_of_length_le om])) ?_)))
    obtain⟨_,W,_,_,m2,s,J,rfl⟩:=(((hg a (List.mem_of_getElem? hx) c _ _ hR hm0 s.topX).imp fun v _ h=>(h.trans (by rw[hp]):v=vf (.bool true))):af g ([.u (.agg (c))]++caps.map fun x=>.u (.f x)) Y (n8+1) _).on s
    have hm0:=hm0.tr m2
    have hpre:=hpre.mono fun _ _ h=>aV.mono _ _ _ _ m2 h
    have hc:=hc.mono fun _ _ h=>aV.mono _ _ _ _ m2 h
    refine ov 28 (J _ _ kr hgo) ?_
    have s:=aa.tl s
    refine ae 1 (ar (nx (rg (go 1 (ov 21 (aN (i+1+q) 1) (aR 1 ?_))))))
    exact .inl ⟨rfl,W,w,cs2,az (ts:=[0,1,5,6]) kr,s,(hm0),(by rw[htk,List.filter_append,List.length_append,hw];simp[hp]),(hl2),(by rw[htk,List.filter_append];simpa[hp]using hpre),(by have:=congrArg (List.drop 10) hsuf;simpa[List.drop_drop,Nat.add_mul,Nat.add_assoc]using this),(hc)⟩
  ·obtain⟨Y,w,cs2,hT,s,hm0,hw,hl2,hpre,hsuf,hc⟩:=hI
   refine To.keep _ ?_ hT.sub
   refine aP 2 (ov 18 (ln len) (ov 19 (lF (i+1+(len-(i+1))) len) (aj ?_)))
   have hjl:i+1+(len-(i+1))=l.length:=by omega
   rw[hjl,List.take_length]at hw hpre
   have hwle:w≤len:=by rw[←hw,hlen];exact List.length_filter_le _ _
   refine iF (xt 0 ?_)
   refine⟨sm,?_⟩
   show To Tryz.prog 118 [1,1,1,1] _ _ _ _
   refine ai 2 (ov 38 (c7 (id:=k) (off:=0) (sz:=10) (len:=len) (L:=cs2.length) (l:=w) (h:=len) (cap:=none) (lo:=some w) (hi:=none) (by rw[s.at 0 rfl];rfl) rfl rfl om om (fun c h=>nomatch h) om) ?_)
   obtain⟨_,cs4,hl4,hc4,s,J⟩:=mY (off:=0+w*10) (len:=len-w) (sz:=10) (cap:=none) (tz 40) s 0 rfl om
   refine oe (J _ _) (aj (ai 2 (ov 41 (c7 (id:=k) (off:=0) (sz:=10) (len:=len) (L:=cs4.length) (l:=0) (h:=w) (cap:=none) (lo:=none) (hi:=some w) (by rw[s.at 0 rfl];rfl) rfl rfl om om (fun c h=>nomatch h) om) (ax 1 ?_))))
   rw[Nat.zero_add]at hc4
   exact⟨.inr rfl,vf (.sl k 0 10 w none),kr,Y,_,aa.fin (Ps:=[_]) s,hm0,.sl k 0 10 w none,_,rfl,.inr ⟨k,w,cs4,ex,rfl,rfl,om,rfl⟩,by rw[hc4];exact hpre⟩
 ·refine ah 1 (ai 2 ?_)
  obtain⟨_,_,_,hc45,hm46,ht47,rfl⟩:=(af.same hcI hmI htI:af 166 [vf (.sl (k) (0) 10 (len) none),.u (.fn g caps)] H0 (n) _)
  have s:=s0.callH hc45 hm46 ht47
  refine ov 10 (jC hc45) (ae 1 (aP 1 (ov 12 (au (gR .i64 (x:=(-1:Int)) (y:=(-1:Int)) om)) (aj (iT (ah 2 (rt ?_)))))))
  exact⟨.inr rfl,vf (.sl k 0 10 len none),kr,X,_,aa.fin (Ps:=[_]) s,hm0,_,_,rfl,.inr ⟨k,len,cs,ex,rfl,rfl,hl,rfl⟩,by rw[qH (by rw[←hlen];exact fun i hi=>hn i om)];exact hc⟩
theorem Cw{X:Heap}{n:Nat}{g:Nat}{caps:List F}(p:Rg→Bool)(hgo:bX Tryz.prog g=true):al 118 [vf (.sl0),.u (.fn g caps)] X n ([]) fun v _ P'=>v=vf .sl0∧P'=[]:=by
 refine al.of_to (Ps:=[[]]) kr fun R H0 s0=>?_
 have hm0:ab X X:=ab.rfl
 refine ah 1 (ai 2 ?_)
 obtain⟨_,_,_,hc51,hm52,ht53,rfl⟩:=(((mB (X:=H0) (f:=.sl0) (l:=[]) (fun i=>false) (.inl ⟨rfl,rfl⟩) sm hgo (fun i a ha=>by simp at ha) s0.top):af _ _ _ _ _).imp fun v _ h=>(by rcases h with⟨i,hi,_⟩|⟨_,h⟩;exact absurd hi sm;exact h:v=vf (.int .i64 (-1))):af 166 [vf (.sl0),.u (.fn g caps)] H0 (n) _)
 have s:=s0.callH hc51 hm52 ht53
 refine ov 10 (jC hc51) (ae 1 (aP 1 (ov 12 (au (gR .i64 (x:=(-1:Int)) (y:=(-1:Int)) om)) (aj (iT (ah 2 (rt ?_)))))))
 exact⟨.inr rfl,_,kr,X,_,aa.fin (Ps:=[_]) s,hm0,rfl,rfl⟩
theorem o_{X:Heap}{n:Nat}{f:F}{fs:List F}{P0:List (Nat×O)}{g:Nat}{caps:List F}{l:List Rg}(p:Rg→Bool)(hlt:l.length<100000)(hgo:bX Tryz.prog g=true)(hg:∀a∈l,∀c Y m,aV Y a c→ab X Y→ap Y m→af g ([.u (.agg c)]++caps.map fun x=>.u (.f x)) Y m fun v _=>v=vf (.bool (p a)))(ho:av 10 f fs P0)(hc:aA (aV X) 10 l fs):al 118 [vf f,.u (.fn g caps)] X n P0 fun v X' P'=>∃f2 fs2,v=vf f2∧av 10 f2 fs2 P'∧aA (aV X') 10 (l.filter fun a=> !p a) fs2:=by
 rcases ho with⟨rfl,rfl,rfl⟩|⟨k,len,cs,ex,rfl,rfl,hl,rfl⟩
 ·have hl0:l=[]:=List.eq_nil_of_length_eq_zero (by have:=hc.len;simp at this;omega)
  subst hl0
  refine(Cw p hgo).imp fun v X' P' h=>?_
  obtain⟨rfl,rfl⟩:=h
  exact⟨.sl0,[],rfl,av.nil _,rfl⟩
 ·exact Cb p hlt hgo hg hl hc
/-- what a store keeps: tombstones, symbols; lg: at least its log's length -/
structure bi where
 gone:List (Nat×Nat×Nat)
 sy:List Rg
 lg:Nat
def c5:Rg→Prop
 |.sy ip ik u B N M b e d=>np ip ik u B N M b e∧d.length=N
 |.tb _ _ _=>False
theorem c5.ok{r:Rg}(h:c5 r):dy r:=by cases r<;>first | exact h | exact h.elim
def c8(l:List (Nat×Nat×Nat)):List (U×U):=l.map fun q=>(.agg [iN q.1,iN q.2.1],.f (iN q.2.2))
abbrev HP(sid:Nat)(b:F)(sure:Nat)(syf:F)(mid:Nat)(gone:List (Nat×Nat×Nat)):List (Nat×O):=[(sid,.cells [b,iN sure,iN 500,syf,.map mid] true),(mid,.mp (c8 gone))]
def bZ(X:Heap)(sid:Nat)(st:bi)(P:List (Nat×O)):Prop:=∃b sure syf mid log fs pb ps,P=cat [HP sid b sure syf mid st.gone,pb,ps]∧av 1 b log pb∧log.length≤st.lg∧av 10 syf fs ps∧aA (aV X) 10 st.sy fs
theorem bZ.mono{X Y:Heap}{sid:Nat}{st:bi}{P:List (Nat×O)}(hm:ab X Y)(h:bZ X sid st P):bZ Y sid st P:=by
 obtain⟨b,sure,syf,mid,log,fs,pb,ps,h1,h2,h3,h4,h5⟩:=h
 exact⟨b,sure,syf,mid,log,fs,pb,ps,h1,h2,h3,h4,h5.mono fun _ _ q=>q.mono _ _ _ _ hm⟩
theorem av.at{α:Type}{R:α→List F→Prop}{X H:Heap}{n sz i:Nat}{a:F}{fs:List F}{M:List (Nat×O)}{l:List α}{x:α}(h:av sz a fs M)(hsz:0<sz)(hc:aA R sz l fs)(hx:l[i]?=some x)(A B:List (List (Nat×O)))(s:aa X H n (cat (A++M::B))):
 ∃k cs ex c,a=.sl k 0 sz l.length none∧H k=some (.cells cs ex)∧0+i*sz+sz≤cs.length∧(cs.drop (0+i*sz)).take sz=c∧c.length=sz∧R x c∧i<l.length:=by
 have hil:i<l.length:=by
  rcases Nat.lt_or_ge i l.length with g | g
  ·exact g
  ·rw[List.getElem?_eq_none g]at hx;cases hx
 have hcl:=hc.len
 rcases h with⟨rfl,rfl,rfl⟩|⟨k,len,cs,ex,rfl,rfl,hl,rfl⟩
 ·have hc:0=l.length*sz:=hcl
  rcases Nat.mul_eq_zero.1 hc.symm with h | h<;>omega
 ·have hk:=(s.own (k,.cells cs ex) (by rw[bT];simp[cat])).1
  rw[List.length_take,Nat.min_eq_left hl]at hcl
  have:len=l.length:=Nat.eq_of_mul_eq_mul_right hsz hcl
  subst this
  obtain⟨c,g1,g2,g3⟩:=hc.at hx
  have hle:(i+1)*sz≤l.length*sz:=Nat.mul_le_mul_right _ hil
  rw[Nat.add_mul,Nat.one_mul]at hle
  exact⟨k,cs,ex,c,rfl,hk,om,by rw[←g1,Nat.zero_add];exact kE hil,g2,g3,hil⟩
theorem av.lenC{α:Type}{R:α→List F→Prop}{sz:Nat}{a:F}{fs:List F}{M:List (Nat×O)}{l:List α}(h:av sz a fs M)(hsz:0<sz)(hc:aA R sz l fs):Cm.cd a=some l.length:=h.lenA hsz hc.len
theorem aa.pack3{X H:Heap}{n:Nat}{a b c:List (Nat×O)}{L:List (List (Nat×O))}(s:aa X H n (cat (a::b::c::L))):aa X H n (cat (cat [a,b,c]::L)):=by
 have e:cat (cat [a,b,c]::L)=cat (a::b::c::L):=by simp[cat]
 rw[e];exact s
theorem Ax{X:Heap}{n:Nat}{sid:Nat}{st:bi}{P0:List (Nat×O)}(hst:bZ X sid st P0){g:F}{row:List Nat}(hr:aB X g row)(hrl:row.length≤65535)(hl9:st.lg≤1000000000):al 229 [vf (.ptr (sid) (0)),vf (g)] X n (P0) fun v X' P'=>v=vi 0∧bZ X' sid {st with lg:=st.lg+(row.length+2)} P':=by
 obtain⟨b,sure,syf,mid,log,fs,pb,ps,rfl,hb,hlg,hs,hc⟩:=hst
 refine al.of_to (Ps:=[[(sid,.cells [b,iN sure,iN 500,syf,.map (mid)] true),(mid,.mp (c8 st.gone))],pb,ps]) kr fun R H0 s0=>?_
 have hm0:ab X X:=ab.rfl
 refine ah 1 (aD 0 (ah 3 (iF (ai 1 (ov 10 (lv row.length hr.lenA) (ov 11 (gF row.length 65535) (ae 1 (ar (nx (ai 4 (ov 16 (ld 0 (s0.at 0 rfl) rfl) (go 1 (ov 18 (lv row.length hr.lenA) (ov 19 (au (zd .u64 (row.length) (8) om)) (ov 20 (eR (jY ((row.length)/2 ^ (8)))) (go 1 (ov 22 (lv row.length hr.lenA) (ov 23 (eR (jY (row.length))) ?_))))))))))))))))))
 obtain⟨W,_,s,m,f,J⟩:=bj s0 (.cells [.int .u8 ((((row.length)/2 ^ (8))%256:Nat):Int),.int .u8 (((row.length)%256:Nat):Int)] true)
 have hm0:=hm0.tr m
 have hc:=hc.mono fun _ _ q=>q.mono _ _ _ _ m
 have hr:=hr.mono m
 refine ov 24 (J _ _ (vf (.sl (n) (0) 1 (2) none))) ?_
 obtain⟨a,_,_,_,ho186,s,J⟩:=b6 (sz:=1) (bytes:=1) (x:=.sl (n) (0) 1 (2) none) (new:=[.int .u8 ((((row.length)/2 ^ (8))%256:Nat):Int),.int .u8 (((row.length)%256:Nat):Int)]) [_] [_,_] s (hb) (bf (s.mono _ _ f) rfl) (rfl) om om
 refine ov 25 (J _ _) (go 2 ?_)
 obtain⟨_,s,J⟩:=aI (off:=0) (new:=[a]) (cs':=[a,iN sure,iN 500,syf,.map (mid)]) s 0 rfl sm rfl
 refine oe (J _ _) (aj (ai 4 (ov 32 (ld 0 (s.at 0 rfl) rfl) (go 1 ?_))))
 obtain⟨a1,_,_,_,ho196,s,J⟩:=b6 (sz:=1) (bytes:=1) (x:=g) (new:=bs row) [_] [_,_] s (ho186) (aO s.mono hr.1) (hr.lenA) om (by rw[List.length_append];simp;omega)
 refine ov 34 (J _ _) (go 2 ?_)
 obtain⟨_,s,J⟩:=aI (off:=0) (new:=[a1]) (cs':=[a1,iN sure,iN 500,syf,.map (mid)]) s 0 rfl sm rfl
 refine oe (J _ _) (aj (ah 1 (rt ?_)))
 exact⟨.inr rfl,_,kr,W,_,aa.fin (Ps:=[_,_,_]) s,hm0,rfl,_,_,_,_,_,_,_,_,rfl,ho196,by simp only[List.length_append,List.length_cons,List.length_nil,bg];omega,hs,hc⟩
theorem AD{X:Heap}{n:Nat}{sid:Nat}{st:bi}{P0:List (Nat×O)}(hst:bZ X sid st P0)  : al 196 [vf (.ptr (sid) (0))] X n (P0) fun v X' P'=>v=.tup []∧bZ X' sid st P':=by
 obtain⟨b,sure,syf,mid,log,fs,pb,ps,rfl,hb,hlg,hs,hc⟩:=hst
 refine al.of_to (Ps:=[[(sid,.cells [b,iN sure,iN 500,syf,.map (mid)] true),(mid,.mp (c8 st.gone))],pb,ps]) kr fun R H0 s0=>?_
 have hm0:ab X X:=ab.rfl
 refine ah 2 (iT (rg (go 4 (ov 8 (ld 0 (s0.at 0 rfl) rfl) (ov 9 (lv log.length (hb.lenA (l:=log.length) om om)) (go 2 ?_))))))
 obtain⟨_,s,J⟩:=aI (off:=1) (new:=[iN log.length]) (cs':=[b,iN log.length,iN 500,syf,.map (mid)]) s0 0 rfl sm rfl
 refine oe (J _ _) (dn ?_)
 exact⟨.inl rfl,_,kr,X,_,aa.fin (Ps:=[_,_,_]) s,hm0,rfl,_,_,_,_,_,_,_,_,rfl,hb,hlg,hs,hc⟩
theorem uK{X:Heap}{n:Nat}{ip ik u B N M b e:Nat}{g:F}{d:List Nat}(hg:aB X g d)(h0:0<d.length)(hlt:d.length<100000)(ht:ap X n):af 210 [.u (.agg [iN ip,iN ik,iN B,iN N,iN M,iN b,iN e,.bool false,iN u,g])] X n fun v X'=>∃g2,v=.u (.agg [iN ip,iN ik,iN B,iN N,iN M,iN b,iN e,.bool false,iN u,g2])∧aB X' g2 d:=by
 refine af.of_to kr ?_
 have s0:aa X X n (cat [[]]):=aa.ini ht
 have hm0:ab X X:=ab.rfl
 refine ag ?_
 obtain⟨_,s,J⟩:=ay s0 (.cells [iN ip,iN ik,iN B,iN N,iN M,iN b,iN e,.bool false,iN u,g] true)
 refine ov 1 (J _ _ (vf (.ptr (n) (0)))) ?_
 obtain⟨_,s,J⟩:=ay s (.cells [.int .i64 0,.int .i64 0,.int .i64 0,.int .i64 0,.int .i64 0,.int .i64 0,.int .i64 0,.bool false,.int .i64 0,.sl0] true)
 refine ov 2 (J _ _ (vf (.ptr (n+1) (0)))) (aj (ai 1 (ov 4 (ld 9 (s.at 1 rfl) rfl) ?_)))
 obtain⟨_,W,_,_,m,s,J,⟨g2,rfl,hg2⟩⟩:=(nO hg h0 hlt s.topX).on s
 have hm0:=hm0.tr m
 refine ov 5 (J _ _) (go 1 ?_)
 obtain⟨_,s,J⟩:=aI (off:=9) (new:=[g2]) (cs':=[iN ip,iN ik,iN B,iN N,iN M,iN b,iN e,.bool false,iN u,g2]) s 1 rfl sm rfl
 refine oe (J _ _) (aj (ag (ov 7 (la 0 10 [iN ip,iN ik,iN B,iN N,iN M,iN b,iN e,.bool false,iN u,g2] (s.at 1 rfl)) ?_)))
 obtain⟨_,s,J⟩:=aI (off:=0) (new:=[iN ip,iN ik,iN B,iN N,iN M,iN b,iN e,.bool false,iN u,g2]) (cs':=[iN ip,iN ik,iN B,iN N,iN M,iN b,iN e,.bool false,iN u,g2]) s 0 rfl sm rfl
 refine oe (J _ _) (aj (rt ?_))
 exact⟨.inr rfl,_,cS (s.at 0 rfl) kr kr,W,_,s,hm0,_,rfl,hg2⟩
theorem A3{X:Heap}{n:Nat}{r:Rg}{c:List F}(h:aV X r c)(hs:c5 r)(ht:ap X n):af 210 [.u (.agg c)] X n fun v X'=>∃c2,v=.u (.agg c2)∧aV X' r c2:=by
 cases r with
 |sy ip ik u B N M b e d=>
  obtain⟨g,rfl,hg⟩:=h
  have h1:=hs.1.sh.n1
  have h2:=hs.1.sh.n2
  have h3:=hs.2
  have hg:aB X g d:=hg
  exact(uK hg om om ht).imp fun v X' h=>by
   obtain⟨g2,h1,h2⟩:=h
   exact⟨_,h1,g2,rfl,h2⟩
 |tb ip ik u=>exact hs.elim
theorem AL{X:Heap}{n:Nat}{sid:Nat}{st:bi}{P0:List (Nat×O)}(hst:bZ X sid st P0)(hsy:∀r∈st.sy,c5 r)(hlt:st.sy.length≤1000):al 153 [vf (.ptr (sid) (0))] X n (P0) fun v X' P'=>∃f fn Pn,v=vf f∧P'=cat [P0,Pn]∧av 10 f fn Pn∧aA (aV X') 10 st.sy fn:=by
 obtain⟨b,sure,syf,mid,log,fs,pb,ps,rfl,hb,hlg,hs,hc⟩:=hst
 refine al.of_to (Ps:=[[(sid,.cells [b,iN sure,iN 500,syf,.map (mid)] true),(mid,.mp (c8 st.gone))],pb,ps]) kr fun R H0 s0=>?_
 have hm0:ab X X:=ab.rfl
 refine ah 1 (sq (ah 2 (ar (nx (ah 1 (aP 3 (ov 11 (ld 3 (s0.at 0 rfl) rfl) (ov 12 (lv st.sy.length (hs.lenC om hc)) (ae 1 (bk 0 (lp (aC.for (st.sy.length) (fun i A Hq nq=>∃(Y:Heap) (a:F) (Pn:List (Nat×O)) (fn:List F),aL A [(3,vf (a)),(11,vf (syf)),(12,vi st.sy.length),(13,vi i)]∧aa Y Hq nq (cat [[(sid,.cells [b,iN sure,iN 500,syf,.map (mid)] true),(mid,.mp (c8 st.gone))],pb,ps,Pn,R])∧(ab X Y)∧(aA (aV Y) 10 st.sy fs)∧(av 10 a fn Pn)∧(aA (aV Y) 10 (st.sy.take i) fn)) ⟨X,.sl0,[],[],az (ts:=[3,11,12,13]) kr,s0,(hm0),(hc),(av.nil 10),(rfl)⟩ (fun i A H n1 hi hI=>?_) (fun A H n1 hI=>?_)))))))))))))
 ·obtain⟨Y,a,Pn,fn,hT,s,hm0,hc,hn,hcn⟩:=hI
  refine To.keep _ ?_ hT.sub
  obtain⟨r,hx⟩:∃r,st.sy[i]?=some r:=⟨_,List.getElem?_eq_getElem hi⟩
  obtain⟨k,cs,exb,c,rfl,h2,h3,h4,hcl,hR,_⟩:=hs.at om hc hx [_,_] [_,_] s
  have hfl:=hcn.len
  rw[List.length_take]at hfl
  have hrs:=hsy r (List.mem_of_getElem? hx)
  refine ag (ov 14 (lT i st.sy.length) (aQ (aM (nx (aD 1 (ag (ov 15 (ix k 0 10 st.sy.length i) (ov 16 (aG (id:=k) (off:=0+i*10) (sz:=10) (c:=c) h2 h3 h4) ?_))))))))
  obtain⟨_,s,J⟩:=ay s (.cells [.int .i64 0,.int .i64 0,.int .i64 0,.int .i64 0,.int .i64 0,.int .i64 0,.int .i64 0,.bool false,.int .i64 0,.sl0] true)
  refine ov 5 (J _ _ (vf (.ptr (n1) (0)))) ?_
  obtain⟨_,s,J⟩:=dv (sz:=10) (new:=c) s 0 rfl om rfl
  refine oe (J _ _) (aj (rg (go 1 (ov 18 (aG (off:=0) (sz:=10) (c:=c) (s.at 0 rfl) om (by rw[List.drop_zero,List.take_of_length_le om])) ?_))))
  obtain⟨_,_,_,n2,m,s,J,⟨c2,rfl,hR2⟩⟩:=(A3 hR hrs s.topX).on s
  refine ov 19 (J _ _) ?_
  have hcl2:=hR2.len
  obtain⟨W,_,s,m1,f1,J⟩:=lR (sz:=10) (c:=c2) s om
  have hm0:=hm0.tr (m.tr m1)
  have hc:=hc.mono fun _ _ q=>q.mono _ _ _ _ (m.tr m1)
  have hcn:=hcn.mono fun _ _ q=>q.mono _ _ _ _ (m.tr m1)
  have hR2:=hR2.mono _ _ _ _ m1
  refine ov 20 (J _ _) ?_
  obtain⟨_,_,_,_,ho248,s,J⟩:=b6 (sz:=10) (bytes:=96) (x:=.sl (n2) (0) 10 (1) none) (new:=c2) [_,_,_] [_] s (hn) (bf (s.mono _ _ f1) om) (rfl) om om
  refine ov 21 (J _ _) ?_
  have s:=aa.tl s
  refine ae 1 (rg (ov 22 (aN i 1) (aR 1 ?_)))
  exact .inl ⟨rfl,W,_,_,_,az (ts:=[3,11,12,13]) kr,s,(hm0),(hc),(ho248),(by rw[bU hx];exact hcn.snoc hR2 hcl2)⟩
 ·obtain⟨Y,a,Pn,fn,hT,s,hm0,hc,hn,hcn⟩:=hI
  refine To.keep _ ?_ hT.sub
  refine ag (ov 14 (lF st.sy.length st.sy.length) (aj ?_))
  rw[List.take_length]at hcn
  have sp:=aa.pack3 s
  refine sq (iF (xt 0 ?_))
  refine⟨sm,?_⟩
  show To Tryz.prog 153 [1,1,1,1] _ _ _ _
  refine ah 2 (rt ?_)
  exact⟨.inr rfl,vf a,kr,Y,_,aa.fin (Ps:=[_,_]) sp,hm0,a,fn,Pn,rfl,rfl,hn,hcn⟩
def bu:Rg→Nat×Nat
 |.sy ip ik _ _ _ _ _ _ _=>(ip,ik)
 |.tb ip ik _=>(ip,ik)
def aW(ip ik:Nat)(r:Rg):Bool:=decide ((bu r).1=ip∧(bu r).2=ik)
theorem aV.ex{X:Heap}{r:Rg}{c:List F}(h:aV X r c):∃x2 x3 x4 x5 x6 x7 x8 x9:F,c=[iN (bu r).1,iN (bu r).2,x2,x3,x4,x5,x6,x7,x8,x9]:=by
 cases r with
 |sy ip ik u B N M b e d=>obtain⟨g,rfl,_⟩:=h;exact⟨_,_,_,_,_,_,_,_,rfl⟩
 |tb ip ik u=>have h:c=_:=h;subst h;exact⟨_,_,_,_,_,_,_,_,rfl⟩
/-- until when an object is gone -/
def bK:List (Nat×Nat×Nat)→Nat→Nat→Option Nat
 |[],_,_=>none
 |q::l,ip,ik=>if q.1=ip∧q.2.1=ik then some q.2.2 else bK l ip ik
theorem vL:∀(l:List (Nat×Nat×Nat)) (ip ik u i:Nat),bK l ip ik=some u→∃j,cg (.agg [iN ip,iN ik]) (c8 l) i=some (some (j,.f (iN u)))
 |[],_,_,_,_,h=>by cases h
 |(a,b,w)::l,ip,ik,u,i,h=>by
  simp only[bK]at h
  split at h
  ·rename_i e
   cases h
   obtain⟨rfl,rfl⟩:=e
   exact⟨i,by simp[c8,cg,cm]⟩
  ·rename_i e
   obtain⟨j,hj⟩:=vL l ip ik u (i+1) h
   refine⟨j,?_⟩
   have:(ip == a&&ik == b)=false:=by
    rw[Bool.eq_false_iff];intro q;simp only[Bool.and_eq_true,beq_iff_eq]at q;exact e ⟨q.1.symm,q.2.symm⟩
   have e2:cm [true,true] [iN ip,iN ik] [iN a,iN b]=some false:=by
    simp only[cm,if_true,Bool.and_true]
    rw[←this]
    congr 1
    rw[Bool.eq_iff_iff];simp;omega
   simp only[c8,List.map_cons,cg,List.map_nil,e2]
   exact hj
theorem og:∀(l:List (Nat×Nat×Nat)) (ip ik i:Nat),bK l ip ik=none→cg (.agg [iN ip,iN ik]) (c8 l) i=some none
 |[],_,_,_,_=>rfl
 |(a,b,w)::l,ip,ik,i,h=>by
  simp only[bK]at h
  split at h
  ·cases h
  ·rename_i e
   have:=og l ip ik (i+1) h
   have q:(ip == a&&ik == b)=false:=by
    rw[Bool.eq_false_iff];intro q;simp only[Bool.and_eq_true,beq_iff_eq]at q;exact e ⟨q.1.symm,q.2.symm⟩
   have e2:cm [true,true] [iN ip,iN ik] [iN a,iN b]=some false:=by
    simp only[cm,if_true,Bool.and_true]
    rw[←q]
    congr 1
    rw[Bool.eq_iff_iff];simp;omega
   simp only[c8,List.map_cons,cg,List.map_nil,e2]
   exact this
theorem Gg{X:Heap}{n:Nat}{r:Rg}{ip ik bid:Nat}{x2 x3 x4 x5 x6 x7 x8 x9:F}(hb:X bid=some (.cells [iN ip,iN ik] true))(ht:ap X n):af 154 [.u (.agg [iN ((bu r).1),iN ((bu r).2),x2,x3,x4,x5,x6,x7,x8,x9]),vf (.ptr (bid) (0))] X n fun v _=>v=vf (.bool (!aW ip ik r)):=by
 refine af.of_to kr ?_
 have s0:aa X X n (cat [[]]):=aa.ini ht
 have hm0:ab X X:=ab.rfl
 by_cases hq:(bu r).1=ip∧(bu r).2=ik
 ·refine ag ?_
  obtain⟨_,s,J⟩:=ay s0 (.cells [iN ((bu r).1),iN ((bu r).2),x2,x3,x4,x5,x6,x7,x8,x9] true)
  refine ov 2 (J _ _ (vf (.ptr (n) (0)))) (ae 1 (ai 1 (ov 5 (la 0 2 [iN ((bu r).1),iN ((bu r).2)] (s.at 0 rfl)) (ov 6 (la 0 2 [iN ip,iN ik] (s.mono _ _ hb)) (ov 7 (jo (e:=false) (z:=false) (ks:=[true,true]) (xs:=[iN ((bu r).1),iN ((bu r).2)]) (ys:=[iN ip,iN ik]) (by simp[cm,hq.1,hq.2])) (ax 1 ?_))))))
  exact⟨.inr rfl,_,kr,X,_,s,hm0,by rw[show aW ip ik r=true from decide_eq_true hq]⟩
 ·refine ag ?_
  obtain⟨_,s,J⟩:=ay s0 (.cells [iN ((bu r).1),iN ((bu r).2),x2,x3,x4,x5,x6,x7,x8,x9] true)
  refine ov 2 (J _ _ (vf (.ptr (n) (0)))) (ae 1 (ai 1 (ov 5 (la 0 2 [iN ((bu r).1),iN ((bu r).2)] (s.at 0 rfl)) (ov 6 (la 0 2 [iN ip,iN ik] (s.mono _ _ hb)) (ov 7 (jo (e:=false) (z:=true) (ks:=[true,true]) (xs:=[iN ((bu r).1),iN ((bu r).2)]) (ys:=[iN ip,iN ik]) (by simp only[cm,if_true];congr 1;rw[Bool.eq_iff_iff];simp;omega)) (ax 1 ?_))))))
  exact⟨.inr rfl,_,kr,X,_,s,hm0,by rw[show aW ip ik r=false from decide_eq_false hq]⟩
theorem C5{X:Heap}{n:Nat}{r:Rg}{c:List F}{ip ik bid:Nat}(h:aV X r c)(hb:X bid=some (.cells [iN ip,iN ik] true))(ht:ap X n):af 154 [.u (.agg c),vf (.ptr bid 0)] X n fun v _=>v=vf (.bool (!aW ip ik r)):=by
 obtain⟨x2,x3,x4,x5,x6,x7,x8,x9,rfl⟩:=h.ex
 exact Gg hb ht
theorem xb{X:Heap}{n:Nat}{sid:Nat}{st:bi}{P0:List (Nat×O)}(hst:bZ X sid st P0){ip ik:Nat}(hsy:∀r∈st.sy,c5 r)(hlt:st.sy.length≤1000):al 113 [vf (.ptr (sid) (0)),.u (.agg [iN ip,iN ik])] X n (P0) fun v X' P'=>∃f fn Pn,v=vf f∧P'=cat [P0,Pn]∧av 10 f fn Pn∧aA (aV X') 10 (st.sy.filter (aW ip ik)) fn:=by
 refine al.of_to1 kr fun R H0 s0=>?_
 have hm0:ab X X:=ab.rfl
 refine ag ?_
 obtain⟨_,s,J⟩:=ay s0 (.cells [iN ip,iN ik] true)
 refine ov 3 (J _ _ (vf (.ptr (n) (0)))) (ae 1 (ai 1 ?_))
 obtain⟨_,_,_,_,Q1,m1,s,J,⟨f,fn,Pn,rfl,rfl,hn,hcn⟩⟩:=(AL hst hsy hlt).on [_] [_] s
 refine ov 6 (J _ _) ?_
 have s:=aa.unp [_] [_] [_,_] s
 obtain⟨_,m2,s,f1⟩:=aa.frzC s
 have hcn:=hcn.mono fun _ _ q=>q.mono _ _ _ _ m2
 have hbx:=f1
 refine go 1 ?_
 obtain⟨_,W,_,_,Pm,m3,s,J,⟨f2,fn2,rfl,hn2,hcn2⟩⟩:=(o_ (l:=st.sy) (g:=154) (caps:=[.ptr n 0]) (fun r=> !aW ip ik r) om kr (fun a _ c Y m hR hm ht=>C5 hR (hm _ _ hbx) ht) hn hcn).on [_,_] [_] s
 have hm0:=hm0.tr (m1.tr (m2.tr m3))
 refine ov 8 (J _ _) (ax 1 ?_)
 have sp:=aa.pck [_] [_] [_,_] s
 exact⟨.inr rfl,_,kr,W,_,aa.fin1 sp,hm0,f2,fn2,Pm,rfl,rfl,hn2,by simpa using hcn2⟩
theorem nZ{X:Heap}{n:Nat}{sid:Nat}{st:bi}{P0:List (Nat×O)}(hst:bZ X sid st P0){ip ik:Nat}:al 190 [vf (.ptr (sid) (0)),.u (.agg [iN ip,iN ik])] X n (P0) fun v _ P'=>P'=P0∧((bK st.gone ip ik=none∧v=.tup [.agg [iN 0,iN 0,iN 0,iN 0,iN 0,iN 0,iN 0,.bool false,iN 0,.sl0],.f (.bool false)])∨∃u,bK st.gone ip ik=some u∧v=.tup [.agg [iN ip,iN ik,.int .i64 0,.int .i64 0,.int .i64 0,.int .i64 0,.int .i64 0,.bool true,iN u,.sl0],.f (.bool true)]):=by
 obtain⟨b,sure,syf,mid,log,fs,pb,ps,rfl,hb,hlg,hs,hc⟩:=hst
 refine al.of_to (Ps:=[[(sid,.cells [b,iN sure,iN 500,syf,.map (mid)] true),(mid,.mp (c8 st.gone))],pb,ps]) kr fun R H0 s0=>?_
 have hm0:ab X X:=ab.rfl
 rcases hgu:bK st.gone ip ik with _ | u
 ·have hj:=og st.gone ip ik 0 hgu
  refine ag ?_
  obtain⟨_,s,J⟩:=ay s0 (.cells [iN ip,iN ik] true)
  refine ov 3 (J _ _ (vf (.ptr (n) (0)))) ?_
  obtain⟨_,s,J⟩:=ay s (.cells [.int .i64 0,.int .i64 0,.int .i64 0,.int .i64 0,.int .i64 0,.int .i64 0,.int .i64 0,.bool false,.int .i64 0,.sl0] true)
  refine ov 4 (J _ _ (vf (.ptr (n+1) (0)))) (ae 1 (sq (ah 2 (ar (nx (sq (dw [0,1,2,3,4,5,6,7,8,9,10] (sg [0,1,2] (sr (some 15) (sid) trivial (am (off:=4) (s.at 2 rfl) rfl) (sr (some 16) (n) trivial (aG (off:=0) (sz:=2) (c:=[iN ip,iN ik]) (s.at 1 rfl) sm rfl) (sr (some 17) (mid) trivial (tE (z:=.f (iN 0)) (s.at 3 rfl) hj) (sg [6,7,8,9,10] (sx (nx (sq (ah 2 (iT (ai 1 ?_))))))))))))))))))
  obtain⟨_,s,J⟩:=aI (off:=0) (new:=[.int .i64 0,.int .i64 0,.int .i64 0,.int .i64 0,.int .i64 0,.int .i64 0,.int .i64 0,.bool false,.int .i64 0,.sl0]) (cs':=[.int .i64 0,.int .i64 0,.int .i64 0,.int .i64 0,.int .i64 0,.int .i64 0,.int .i64 0,.bool false,.int .i64 0,.sl0]) s 0 rfl sm rfl
  refine oe (J _ _) (ax 1 ?_)
  exact⟨.inr rfl,_,cS (s.at 0 rfl) kr kr,X,_,aa.fin (Ps:=[_,_,_]) (aa.tl (aa.tl s)),hm0,rfl,.inl ⟨rfl,rfl⟩⟩
 ·obtain⟨j,hj⟩:=vL st.gone ip ik u 0 hgu
  refine ag ?_
  obtain⟨_,s,J⟩:=ay s0 (.cells [iN ip,iN ik] true)
  refine ov 3 (J _ _ (vf (.ptr (n) (0)))) ?_
  obtain⟨_,s,J⟩:=ay s (.cells [.int .i64 0,.int .i64 0,.int .i64 0,.int .i64 0,.int .i64 0,.int .i64 0,.int .i64 0,.bool false,.int .i64 0,.sl0] true)
  refine ov 4 (J _ _ (vf (.ptr (n+1) (0)))) (ae 1 (sq (ah 2 (ar (nx (sq (dw [0,1,2,3,4,5,6,7,8,9,10] (sg [0,1,2] (sr (some 15) (sid) trivial (am (off:=4) (s.at 2 rfl) rfl) (sr (some 16) (n) trivial (aG (off:=0) (sz:=2) (c:=[iN ip,iN ik]) (s.at 1 rfl) sm rfl) (sr (some 17) (mid) trivial (HM (i:=j) (z:=.f (iN 0)) (s.at 3 rfl) hj) (sg [6,7,8,9,10] (sx (nx (sq (ah 2 (ar (nx (ag (ov 23 (la 0 2 [iN ip,iN ik] (s.at 1 rfl)) (go 2 ?_)))))))))))))))))))))
  obtain⟨_,s,J⟩:=aI (off:=0) (new:=[iN ip,iN ik,.int .i64 0,.int .i64 0,.int .i64 0,.int .i64 0,.int .i64 0,.bool true,iN u,.sl0]) (cs':=[iN ip,iN ik,.int .i64 0,.int .i64 0,.int .i64 0,.int .i64 0,.int .i64 0,.bool true,iN u,.sl0]) s 0 rfl sm rfl
  refine oe (J _ _) (ax 1 ?_)
  exact⟨.inr rfl,_,cS (s.at 0 rfl) kr kr,X,_,aa.fin (Ps:=[_,_,_]) (aa.tl (aa.tl s)),hm0,rfl,.inr ⟨u,rfl,rfl⟩⟩
theorem wt{X:Heap}{n:Nat}{sid:Nat}{st:bi}{P0:List (Nat×O)}(hst:bZ X sid st P0){ip ik:Nat}:al 155 [vf (.ptr (sid) (0)),.u (.agg [iN ip,iN ik])] X n (P0) fun v _ P'=>P'=P0∧v=vf (.bool (bK st.gone ip ik).isSome):=by
 refine al.of_to1 kr fun R H0 s0=>?_
 have hm0:ab X X:=ab.rfl
 rcases hgu:bK st.gone ip ik with _ | u
 ·refine ag ?_
  obtain⟨_,s,J⟩:=ay s0 (.cells [iN ip,iN ik] true)
  refine ov 3 (J _ _ (vf (.ptr (n) (0)))) (ae 1 (ai 1 (ov 9 (la 0 2 [iN ip,iN ik] (s.at 0 rfl)) ?_)))
  obtain⟨_,W,_,n1,Q1,m,s1,J,⟨rfl,rfl⟩⟩:=((nZ hst (ip:=ip) (ik:=ik)).imp fun v X P2 h=>((by
   rcases h with⟨h1,(⟨_,h2⟩|⟨u,hu,_⟩)⟩
   ·exact⟨h1,h2⟩
   ·cases hu.symm.trans hgu):P2=P0∧v=.tup [.agg [iN 0,iN 0,iN 0,iN 0,iN 0,iN 0,iN 0,.bool false,iN 0,.sl0],.f (.bool false)])).on [_] [_] s
  have hm0:=hm0.tr m
  refine ov 10 (J _ _) (go 3 ?_)
  obtain⟨_,s2,J⟩:=ay s1 (.cells [.int .i64 0,.int .i64 0,.int .i64 0,.int .i64 0,.int .i64 0,.int .i64 0,.int .i64 0,.bool false,.int .i64 0,.sl0] true)
  refine ov 5 (J _ _ (vf (.ptr (n1) (0)))) ?_
  obtain⟨_,s3,J⟩:=aI (off:=0) (new:=[.int .i64 0,.int .i64 0,.int .i64 0,.int .i64 0,.int .i64 0,.int .i64 0,.int .i64 0,.bool false,.int .i64 0,.sl0]) (cs':=[.int .i64 0,.int .i64 0,.int .i64 0,.int .i64 0,.int .i64 0,.int .i64 0,.int .i64 0,.bool false,.int .i64 0,.sl0]) s2 0 rfl sm rfl
  refine oe (J _ _) (ae 1 (ah 2 (rt ?_)))
  exact⟨.inr rfl,_,kr,W,_,aa.fin1 s3,hm0,rfl,rfl⟩
 ·refine ag ?_
  obtain⟨_,s4,J⟩:=ay s0 (.cells [iN ip,iN ik] true)
  refine ov 3 (J _ _ (vf (.ptr (n) (0)))) (ae 1 (ai 1 (ov 9 (la 0 2 [iN ip,iN ik] (s4.at 0 rfl)) ?_)))
  obtain⟨_,W,_,n2,Q1,m1,s5,J,⟨rfl,rfl⟩⟩:=((nZ hst (ip:=ip) (ik:=ik)).imp fun v X P2 h=>((by
   rcases h with⟨h1,(⟨h3,_⟩|⟨w,hu,h2⟩)⟩
   ·cases h3.symm.trans hgu
   ·cases hu.symm.trans hgu
    exact⟨h1,h2⟩):P2=P0∧v=.tup [.agg [iN ip,iN ik,.int .i64 0,.int .i64 0,.int .i64 0,.int .i64 0,.int .i64 0,.bool true,iN u,.sl0],.f (.bool true)])).on [_] [_] s4
  have hm0:=hm0.tr m1
  refine ov 10 (J _ _) (go 3 ?_)
  obtain⟨_,s6,J⟩:=ay s5 (.cells [.int .i64 0,.int .i64 0,.int .i64 0,.int .i64 0,.int .i64 0,.int .i64 0,.int .i64 0,.bool false,.int .i64 0,.sl0] true)
  refine ov 5 (J _ _ (vf (.ptr (n2) (0)))) ?_
  obtain⟨_,s7,J⟩:=aI (off:=0) (new:=[iN ip,iN ik,.int .i64 0,.int .i64 0,.int .i64 0,.int .i64 0,.int .i64 0,.bool true,iN u,.sl0]) (cs':=[iN ip,iN ik,.int .i64 0,.int .i64 0,.int .i64 0,.int .i64 0,.int .i64 0,.bool true,iN u,.sl0]) s6 0 rfl sm rfl
  refine oe (J _ _) (ae 1 (ah 2 (rt ?_)))
  exact⟨.inr rfl,_,kr,W,_,aa.fin1 s7,hm0,rfl,rfl⟩
end Go.Proofs.YtkimkgbppegkhaaGreat.Cm
