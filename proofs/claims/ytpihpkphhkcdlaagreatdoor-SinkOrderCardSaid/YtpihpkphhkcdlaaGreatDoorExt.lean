/- What the printed texts import of ours. -/
import Derived.Test.YtpihpkphhkcdlaaGreatDoorExtConv
