/- What the printed texts lean on. -/
import Derived.Test.YtjapnbghnnbamaaGreatDoorGl
import Derived.Test.YtjapnbghnnbamaaGreatDoorExtConv
